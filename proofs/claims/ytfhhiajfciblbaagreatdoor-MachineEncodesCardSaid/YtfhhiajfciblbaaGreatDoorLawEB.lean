/- Laws for the row. No condition. -/
import Derived.Test.YtfhhiajfciblbaaGreatDoorLawE1
namespace Go.Proofs.YtfhhiajfciblbaaGreatDoor
open Go.Sm
set_option linter.unusedVariables false
set_option maxRecDepth 4000
variable {s:aF} {c:CC} {b l m H p q w a st:List Int} {i n d k:Nat} {α:Type} {t:Th} {x y v kind o:Int} {f:Fr} {S:cp} {fs:List Fr} {e:ce}
theorem YD{s t:Nat}{d x:α}{w:List α}(h:s<n):(cz n d w t x).getD s d=if s=t then x else w.getD s d:=by unfold cz;grind
theorem GR{t:Nat}{d x y:α}{w:List α}:cz n d (cz n d w t x) t y=cz n d w t y:=by unfold cz;simp_all
theorem Z8{t:Nat}(hb:jM b 64)(ht:t<16):((b.take (4*t+4)).drop (4*t)).length=4:=by have:=hb.1;grind
theorem afb{t j:Nat}(hb:jM b 64)(ht:t<16)(hj:j<4):((b.take (4*t+4)).drop (4*t)).getD j 0=b.getD (4*t+j) 0:=by grind
def vh(b:List Int)(t:Nat):Nat->Int
 |0=>0
 |j+1=>vh b t j*256+b.getD (4*t+j) 0
theorem aki(hb:jM b 64){t:Nat}(ht:t<16):∀j:Nat,j<=4->0<=vh b t j/\vh b t j<256 ^ j:=by
 intro j;induction j with
 |zero=>intro _;exact⟨afY _,Int.zero_lt_one⟩
 |succ j ih=>
  intro hj;have h1:=ih (by omega);have h2:=va hb (show 4*t+j<64 by omega);rw[Int.pow_succ];show 0<=vh b t j*256+b.getD (4*t+j) 0/\vh b t j*256+b.getD (4*t+j) 0<256 ^ j*256;omega
theorem aga(hb:jM b 64){t:Nat}(ht:t<16)(hw:w.getD t 0=0){v:Int×List Int}(hv:v=((t:Int),w)){j:Nat}(hj:j<4)(u:List Int)(hu:u.getD t 0=vh b t j) :
  go b v ((j:Int),u)=some (.inl ((j:Int)+1,cz 64 0 u t (vh b t (j+1)))):=by
 subst hv;have a1:(ae (4*(t:Int)))=((4*t:Nat):Int):=by rw[aM (by omega) (by omega)];omega
 have a2:(ae (((4*t:Nat):Int)+4))=((4*t+4:Nat):Int):=by rw[aM (by omega) (by omega)];omega
 have hl:=Z8 hb ht;have ix:ac ((b.take (4*t+4)).drop (4*t)) (j:Int)=some (b.getD (4*t+j) 0):=(aO 0 (by omega)).trans (aba some (afb hb ht hj));have hlt:=aki hb ht j (by omega);have hlt2:vh b t j<16777216:=by
  have:(256:Int) ^ j<=256 ^ 3:=by have:=Nat.pow_le_pow_right (n:=256) (by omega) (show j<=3 by omega);grind
  grind
 unfold go;simp only[a1,a2,aaR,hl,ix,az (show(j:Int)<((4:Nat):Int)by omega),f9,f7,Qz2,af,az (show 0<=(t:Int)/\(t:Int)<64 by omega),az (show(0:Int)<=8 by omega),hu,Zf hlt.1 hlt2 (va hb (show 4*t+j<64 by omega)),aM (x:=(j:Int)+1) (by omega) (by omega)];rfl
theorem aex(hb:jM b 64){t:Nat}(ht:t<16)(hw:w.getD t 0=0):Itr.it (go b ((t:Int),w)) (0,w)=some (cz 64 0 w t (aa5 b t)):=by
 have h1:=(mP (f:=go b ((t:Int),w)) (λi x=>(i,x)) 0 4 (λu j=>cz 64 0 u t (vh b t (j+1))) (λx=>x) (λj u=>u.getD t 0=vh b t j) (by omega) (by omega)
  (λj u _ hj hu=>⟨aga hb ht hw rfl hj u hu,(YD (by omega)).trans (if_pos rfl)⟩)
  (λu _=>by
   have a1:(ae (4*(t:Int)))=((4*t:Nat):Int):=by rw[aM (by omega) (by omega)];omega
   have a2:(ae (((4*t:Nat):Int)+4))=((4*t+4:Nat):Int):=by rw[aM (by omega) (by omega)];omega
   unfold go;grind) (x:=w) hw).1
 refine h1.trans (aba some ?_);have e:aa5 b t=vh b t 4:=by show((b.getD (4*t) 0*256+b.getD (4*t+1) 0)*256+b.getD (4*t+2) 0)*256+b.getD (4*t+3) 0=(((0*256+b.getD (4*t+0) 0)*256+b.getD (4*t+1) 0)*256+b.getD (4*t+2) 0)*256+b.getD (4*t+3) 0;grind
 rw[e];show cz 64 0 (cz 64 0 (cz 64 0 (cz 64 0 w t _) t _) t _) t _=_;rw[GR,GR,GR]
theorem rl(x:Int):bV x (-7)=some (qf x 7)/\bV x (-18)=some (qf x 18)/\bV x (-17)=some (qf x 17)/\bV x (-19)=some (qf x 19):=
 ⟨xu (k:=7) (r:=25) (by decide +kernel) (by omega) (by omega) rfl,xu (k:=18) (r:=14) (by decide +kernel) (by omega) (by omega) rfl,xu (k:=17) (r:=15) (by decide +kernel) (by omega) (by omega) rfl,xu (k:=19) (r:=13) (by decide +kernel) (by omega) (by omega) rfl⟩
theorem aqF(hb:jM b 64){t:Nat}(ht:t<64)(hw:w.getD t 0=0):qQ ((t:Int),w) b=some (pG b w t):=by
 unfold qQ pG;rcases abL t 16 with h|h
 ·have a1:(ae (4*(t:Int)))=((4*t:Nat):Int):=by rw[aM (by omega) (by omega)];omega
  have a2:(ae (((4*t:Nat):Int)+4))=((4*t+4:Nat):Int):=by rw[aM (by omega) (by omega)];omega
  have hl:=hb.1;simp only[az (show(t:Int)<16 by omega),f9,a1,a2,af,az (show 0<=((4*t:Nat):Int)/\((4*t:Nat):Int)<=((4*t+4:Nat):Int)/\((4*t+4:Nat):Int)<=(b.length:Int)by omega),aex hb h hw,f7,Qz2,if_pos h]
 ·have e:∀j:Nat,j<=16->ae ((t:Int)-(j:Int))=((t-j:Nat):Int):=λj hj=>by rw[aM (by omega) (by omega)];omega
  have d:∀j:Nat,j<=16->0<j->(0<=((t-j:Nat):Int)/\((t-j:Nat):Int)<64):=λj hj _=>by omega
  simp only[bN (show¬(t:Int)<16 by omega),aax,show ae ((t:Int)-15)=((t-15:Nat):Int)from e 15 (by omega),show ae ((t:Int)-2)=((t-2:Nat):Int)from e 2 (by omega),show ae ((t:Int)-16)=((t-16:Nat):Int)from e 16 (by omega),show ae ((t:Int)-7)=((t-7:Nat):Int)from e 7 (by omega),
   af,az (d 15 (by omega) (by omega)),az (d 2 (by omega) (by omega)),az (d 16 (by omega) (by omega)),az (d 7 (by omega) (by omega)),az (show(0:Int)<=3 by omega),az (show(0:Int)<=10 by omega),az (show 0<=(t:Int)/\(t:Int)<64 by omega),
   (rl _).1,(rl _).2.1,(rl _).2.2.1,(rl _).2.2.2,f7,Qz2,aaR,if_neg (show¬t<16 by omega)]
  rfl
theorem P4(hb:jM b 64):oo b=some (E8 b):=by
 unfold oo;have h1:=(mP (f:=oC b) (λi x=>(i,x)) 0 64 (λw t=>pG b w t) (λx=>x) (λi w=>∀t,i<=t->t<64->w.getD t 0=0) (by omega) (by omega)
  (λi x _ hi hI=>⟨by
   unfold oC;simp only[az (show(i:Int)<64 by omega),f9,aqF hb hi (hI i (by omega) hi),f7,Qz2,aM (x:=(i:Int)+1) (by omega) (by omega)],
   λt h1 h2=>by unfold pG;rw[YD h2,if_neg (by omega)];grind⟩)
  (λx _=>by rfl) (x:=[]) (λt _ _=>rfl)).1
 refine(aba (λo:Option (List Int)=>o.bind _) h1).trans ?_;rfl
def chR(e f g:Int):Int:=bj .xor .u32 (bj .and .u32 e f) (bj .and .u32 (bj .xor .u32 e 4294967295) g)
def asv(a b c:Int):Int:=bj .xor .u32 (bj .xor .u32 (bj .and .u32 a b) (bj .and .u32 a c)) (bj .and .u32 b c)
def ant(w:List Int)(x:yd)(t:Nat):Int:=IntKind.u32.wrap (IntKind.u32.wrap (IntKind.u32.wrap (IntKind.u32.wrap (x.2.2.2.2.2.2.2+VL x.2.2.2.2.1 6 11 25)+chR x.2.2.2.2.1 x.2.2.2.2.2.1 x.2.2.2.2.2.2.1)+oU.getD t 0)+w.getD t 0)
def zK(w:List Int)(x:yd)(t:Nat):yd:=
 (IntKind.u32.wrap (ant w x t+IntKind.u32.wrap (VL x.1 2 13 22+asv x.1 x.2.1 x.2.2.1)),x.1,x.2.1,x.2.2.1,IntKind.u32.wrap (x.2.2.2.1+ant w x t),x.2.2.2.2.1,x.2.2.2.2.2.1,x.2.2.2.2.2.2.1)
def st8(H:List Int):yd:=(H.getD 0 0,H.getD 1 0,H.getD 2 0,H.getD 3 0,H.getD 4 0,H.getD 5 0,H.getD 6 0,H.getD 7 0)
def rounds(H b:List Int):yd:=(List.range' 0 64).foldl (zK (E8 b)) (st8 H)
def Ig(H:List Int)(x:yd):List Int:=
 [IntKind.u32.wrap (H.getD 0 0+x.1),IntKind.u32.wrap (H.getD 1 0+x.2.1),IntKind.u32.wrap (H.getD 2 0+x.2.2.1),IntKind.u32.wrap (H.getD 3 0+x.2.2.2.1),IntKind.u32.wrap (H.getD 4 0+x.2.2.2.2.1),
  IntKind.u32.wrap (H.getD 5 0+x.2.2.2.2.2.1),IntKind.u32.wrap (H.getD 6 0+x.2.2.2.2.2.2.1),IntKind.u32.wrap (H.getD 7 0+x.2.2.2.2.2.2.2)]
def comp(H b:List Int):List Int:=Ig H (rounds H b)
theorem X4{t:Nat}(ht:t<64):ac oU (t:Int)=some (oU.getD t 0)/\ac sJ (t:Int)=some (oU.getD t 0):=by have e:sJ=oU:=rfl;have l:oU.length=64:=rfl;exact⟨aO 0 (by omega),by rw[e];exact aO 0 (by omega)⟩
theorem Xt(w:List Int)(x:yd):Itr.it (gq w) (x.1,x.2.1,x.2.2.1,x.2.2.2.1,x.2.2.2.2.1,x.2.2.2.2.2.1,x.2.2.2.2.2.2.1,x.2.2.2.2.2.2.2,0)=some ((List.range' 0 64).foldl (zK w) x):=by
 have h:=(mP (f:=gq w) (λi x=>((x.1,x.2.1,x.2.2.1,x.2.2.2.1,x.2.2.2.2.1,x.2.2.2.2.2.1,x.2.2.2.2.2.2.1,x.2.2.2.2.2.2.2,i):Y34)) 0 64 (zK w) (λx=>x) (λ_ _=>True) (by omega) (by omega)
  (λi x _ hi _=>⟨by
   have hd:∀k:Int,0<=k->k<=32->∀y,cH y k=some (qf y k):=λk h0 h1 y=>LY h0 h1;unfold gq;simp only[az (show(i:Int)<64 by omega),f9,af,az (show 0<=(i:Int)/\(i:Int)<64 by omega),hd 6 (by omega) (by omega),hd 11 (by omega) (by omega),hd 25 (by omega) (by omega),hd 2 (by omega) (by omega),hd 13 (by omega) (by omega),hd 22 (by omega) (by omega),(X4 hi).1,f7,Qz2,aaR,aM (x:=(i:Int)+1) (by omega) (by omega)];rfl,trivial⟩)
  (λx _=>by rfl) (x:=x) trivial).1
 exact h
theorem PT(w:List Int)(x:yd):Itr.it (i6 w) (0,[x.1,x.2.1,x.2.2.1,x.2.2.2.1],[x.2.2.2.2.1,x.2.2.2.2.2.1,x.2.2.2.2.2.2.1,x.2.2.2.2.2.2.2]) =
  some ([((List.range' 0 64).foldl (zK w) x).1,((List.range' 0 64).foldl (zK w) x).2.1,((List.range' 0 64).foldl (zK w) x).2.2.1,((List.range' 0 64).foldl (zK w) x).2.2.2.1],[((List.range' 0 64).foldl (zK w) x).2.2.2.2.1,((List.range' 0 64).foldl (zK w) x).2.2.2.2.2.1,((List.range' 0 64).foldl (zK w) x).2.2.2.2.2.2.1,((List.range' 0 64).foldl (zK w) x).2.2.2.2.2.2.2]):=by
 have h:=(mP (f:=i6 w) (λi x=>((i,[x.1,x.2.1,x.2.2.1,x.2.2.2.1],[x.2.2.2.2.1,x.2.2.2.2.2.1,x.2.2.2.2.2.2.1,x.2.2.2.2.2.2.2]):Y30)) 0 64 (zK w) (λx=>([x.1,x.2.1,x.2.2.1,x.2.2.2.1],[x.2.2.2.2.1,x.2.2.2.2.2.1,x.2.2.2.2.2.2.1,x.2.2.2.2.2.2.2])) (λ_ _=>True) (by omega) (by omega)
  (λi x _ hi _=>⟨by
   unfold i6;have g:∀p q r s:Int,List.getD [p,q,r,s] (0:Int).toNat (0:Int)=p/\List.getD [p,q,r,s] (1:Int).toNat (0:Int)=q/\List.getD [p,q,r,s] (2:Int).toNat (0:Int)=r/\List.getD [p,q,r,s] (3:Int).toNat (0:Int)=s:=λp q r s=>⟨rfl,rfl,rfl,rfl⟩
   have hx:∀y,bj .xor .u32 (if IntKind.signed .u32 then -1 else IntKind.max .u32) y=bj .xor .u32 y 4294967295:=λy=>xor_comm _ _;simp only[az (show(i:Int)<64 by omega),f9,af,az (show 0<=(i:Int)/\(i:Int)<64 by omega),az (show 0<=(0:Int)/\(0:Int)<4 by omega),az (show 0<=(1:Int)/\(1:Int)<4 by omega),az (show 0<=(2:Int)/\(2:Int)<4 by omega),az (show 0<=(3:Int)/\(3:Int)<4 by omega),(X4 hi).2,f7,Qz2,(g _ _ _ _).1,(g _ _ _ _).2.1,(g _ _ _ _).2.2.1,(g _ _ _ _).2.2.2,asg,asw,hx,aaR,aM (x:=(i:Int)+1) (by omega) (by omega)];rfl,trivial⟩)
  (λx _=>by rfl) (x:=x) trivial).1
 exact h
def apL(s:List Int×List Int)(H:List Int)(i:Nat):List Int:=
 cz 8 0 (cz 8 0 H i (IntKind.u32.wrap (H.getD i 0+s.1.getD i 0))) (i+4) (IntKind.u32.wrap ((cz 8 0 H i (IntKind.u32.wrap (H.getD i 0+s.1.getD i 0))).getD (i+4) 0+s.2.getD i 0))
theorem ad5(s:List Int×List Int)(H:List Int):Itr.it (sA s) (0,H)=some ((List.range' 0 4).foldl (apL s) H):=by rfl
theorem apN(H:List Int)(x:yd):(List.range' 0 4).foldl (apL ([x.1,x.2.1,x.2.2.1,x.2.2.2.1],[x.2.2.2.2.1,x.2.2.2.2.2.1,x.2.2.2.2.2.2.1,x.2.2.2.2.2.2.2])) H=Ig H x:=rfl
theorem ash(H:List Int):fV 8 0 H=[H.getD 0 0,H.getD 1 0,H.getD 2 0,H.getD 3 0,H.getD 4 0,H.getD 5 0,H.getD 6 0,H.getD 7 0]:=rfl
theorem TP{x:yd}(hs:oo b=some w)
  (h:Itr.it (i6 w) (0,[H.getD 0 0,H.getD 1 0,H.getD 2 0,H.getD 3 0],[H.getD 4 0,H.getD 5 0,H.getD 6 0,H.getD 7 0])=some ([x.1,x.2.1,x.2.2.1,x.2.2.2.1],[x.2.2.2.2.1,x.2.2.2.2.2.1,x.2.2.2.2.2.2.1,x.2.2.2.2.2.2.2])):lX H b=some (Ig H x):=by
 have e4:(4:Int).toNat=4:=rfl;have e8:(8:Int).toNat=8:=rfl;have e0:(0:Int).toNat=0:=rfl;unfold lX;simp only[hs,f7,Qz2,ash,af,e4,e8,e0,agd,aek,List.take_nil,aeN,adi,acn,al9,h,ad5,apN];rfl
theorem ZK(hb:jM b 64):lX H b=some (comp H b):=TP (P4 hb) (PT (E8 b) (st8 H))
theorem Zj{x:yd}(hp:i+64<=p.length)(hl:p.length<4611686018427387904)(hs:jD ((p.take (i+64)).drop i)=some w)
  (h:Itr.it (gq w) (H.getD 0 0,H.getD 1 0,H.getD 2 0,H.getD 3 0,H.getD 4 0,H.getD 5 0,H.getD 6 0,H.getD 7 0,0)=some x):lD ((i:Int),H) p=some (Ig H x):=by
 have e:ae ((i:Int)+64)=((i+64:Nat):Int):=by rw[aM (by omega) (by omega)];omega
 have g:(0:Int).toNat=0/\(1:Int).toNat=1/\(2:Int).toNat=2/\(3:Int).toNat=3/\(4:Int).toNat=4/\(5:Int).toNat=5/\(6:Int).toNat=6/\(7:Int).toNat=7:=⟨rfl,rfl,rfl,rfl,rfl,rfl,rfl,rfl⟩
 unfold lD;simp only[e,af,az (show 0<=(i:Int)/\(i:Int)<=((i+64:Nat):Int)/\((i+64:Nat):Int)<=(p.length:Int)by omega),aaR,hs,f7,Qz2,g.1,g.2.1,g.2.2.1,g.2.2.2.1,g.2.2.2.2.1,g.2.2.2.2.2.1,g.2.2.2.2.2.2.1,g.2.2.2.2.2.2.2,h];rfl
theorem aeq(hp:i+64<=p.length)(hl:p.length<4611686018427387904)(hb:jM ((p.take (i+64)).drop i) 64):lD ((i:Int),H) p=some (comp H ((p.take (i+64)).drop i)):=
 Zj hp hl (aby hb) (Xt (E8 ((p.take (i+64)).drop i)) (st8 H))
attribute [local irreducible] comp
def wB(m:List Int):Prop:=∀x∈m,0<=x/\x<256
theorem ya(ha:wB a)(hb:wB b):wB (a++b):=λx hx=>(aa1.1 hx).elim (ha x) (hb x)
theorem aji(l:List UInt8):wB (cU l):=λx hx=>by obtain⟨b,_,rfl⟩:=aaG.1 hx;have:=b.toNat_lt;omega
theorem B2(l:List UInt8):(cU l).length=l.length:=aee ..
theorem Qb(l:List UInt8)(n:Nat):cU (l.take n)=(cU l).take n:=ahH ..
theorem Tj(a b:List UInt8):cU (a++b)=cU a++cU b:=acw ..
def mS(m:List Int):List UInt8:=List.map (λn=>UInt8.ofNat n.toNat) m
theorem ad9(h:wB m):cU (mS m)=m:=by unfold cU mS;rw[aeU];refine(adg λx hx=>?_).trans (agk m);have:=h x hx;show((UInt8.ofNat x.toNat).toNat:Int)=x;rw[UInt8.toNat_ofNat'];omega
theorem Ek(m:List Int):(mS m).length=m.length:=aee ..
def blk(m:List Int)(k:Nat):List Int:=(m.take (64*k+64)).drop (64*k)
def Hs(m H:List Int)(k:Nat):List Int:=(List.range k).foldl (λH i=>comp H (blk m i)) H
theorem ak5{y:List Int}(h:64*k+64<=m.length):blk (m++y) k=blk m k:=by unfold blk;grind
theorem Bv(m H:List Int)(k:Nat):Hs m H (k+1)=comp (Hs m H k) (blk m k):=by unfold Hs;rw[akL,alf];rfl
theorem XZ{y:List Int}:∀{k:Nat},64*k<=m.length->Hs (m++y) H k=Hs m H k:=by
 intro k;induction k with
 |zero=>intro _;simp only[Hs,List.range_zero,List.foldl_nil]
 |succ k ih=>intro h;rw[Bv,Bv,ih (by omega),ak5 (by omega)]
theorem aaa(hm:wB m)(h:64*k+64<=m.length):jM (blk m k) 64:=
 ⟨by unfold blk;grind,λx hx=>hm x (aeC (agF hx))⟩
theorem QV(n:Nat)(d:α)(xs:List α):(fV n d xs).length=n:=by unfold fV;simp
theorem ZN(d:α){xs:List α}(h:xs.length=n):fV n d xs=xs:=by refine List.ext_getElem (by rw[QV,h]) λi h1 h2=>?_;unfold fV;grind
structure Fed(H m:List Int)(S:cp):Prop where
 h:S.1=Hs m H (m.length / 64)
 b:(fV 64 0 S.2.1).take (m.length%64)=m.drop (64*(m.length / 64))
 n:S.2.2=m.length
 y:wB m
theorem abN(hF:Fed H m S){x:List UInt8}(hx:x≠[])(hl:m.length+x.length<4611686018427387904) :
  ∃(c:Nat) (S':cp),0<c/\c<=x.length/\gI (x,S)=some (.inl (x.drop c,S'))/\Fed H (m++cU (x.take c)) S':=by
 obtain⟨h1,h2,h3,h4⟩:=hF;obtain⟨SH,SB,SN⟩:=S;dsimp only at h1 h2 h3;have hq:=Nat.div_add_mod m.length 64;have hk:=akH m.length (show 0<64 by omega);generalize hQ:m.length / 64=q at *;generalize hK:m.length%64=k at *;have hx0:0<x.length:=List.length_pos_iff.2 hx;have etm:ae (Int.tmod SN 64)=(k:Int):=by
  rw[h3,<-hK];have e:Int.tmod (m.length:Int) 64=((m.length%64:Nat):Int):=by grind
  rw[e,aM (by omega) (by omega)]
 have emin:(min ((64:Int)-(k:Int)).toNat x.length:Nat)=min (64-k) x.length:=by grind
 generalize hc:min (64-k) x.length=c at emin;have ec:ae ((k:Int)+(c:Int))=((k+c:Nat):Int):=by rw[aM (by omega) (by omega)];omega
 have en:IntKind.u64.wrap (SN+IntKind.u64.wrap (c:Int))=((m.length+c:Nat):Int):=by rw[h3,IntKind.wrap_u64,IntKind.wrap_u64];omega
 have hxb:((x==[]):Bool)=false:=by grind
 have hpl:=QV 64 (0:Int) SB;have hB:jq 64 SB (k:Int) 64 x=m.drop (64*q)++cU (x.take c)++(fV 64 0 SB).drop (k+c):=by unfold jq;have e2:(min ((64:Int)-(k:Int)).toNat x.length)=c:=emin;rw[e2,aaR,h2,Qb]
 have hBl:(jq 64 SB (k:Int) 64 x).length=64:=by rw[hB];simp only[aaL,af3,B2,adx,hpl];omega
 have hml:(m++cU (x.take c)).length=m.length+c:=by grind
 have hby:wB (m++cU (x.take c)):=ya h4 (aji _);have hdrop:(m++cU (x.take c)).drop (64*q)=m.drop (64*q)++cU (x.take c):=by grind
 have hx1:(x.take (x.length:Int).toNat).drop ((c:Nat):Int).toNat=x.drop c:=by simp_all
 by_cases hful:k+c=64
 ·have hblk:blk (m++cU (x.take c)) q=jq 64 SB (k:Int) 64 x:=by
   unfold blk;rw[ab4 (by omega),hdrop,hB,show(fV 64 0 SB).drop (k+c)=[]from List.drop_of_length_le (by omega),abd]
  refine⟨c,(comp SH (jq 64 SB (k:Int) 64 x),jq 64 SB (k:Int) 64 x,((m.length+c:Nat):Int)),by omega,by omega,?_,?_⟩
  ·have hcp:lX SH (((fV 64 (0:Int) (jq 64 SB (k:Int) 64 x)).take (64:Int).toNat).drop (0:Int).toNat)=some (comp SH (jq 64 SB (k:Int) 64 x)):=by
    have e:(((fV 64 (0:Int) (jq 64 SB (k:Int) 64 x)).take (64:Int).toNat).drop (0:Int).toNat)=jq 64 SB (k:Int) 64 x:=by rw[ZN 0 hBl];grind
    rw[e];refine ZK ?_;rw[<-hblk];exact aaa hby (by omega)
   unfold gI;dsimp only;rw[hxb];simp only[abR,f9,etm,emin,ec,en,hx1,af,az (show 0<=(k:Int)/\(k:Int)<=64/\(64:Int)<=64 by omega),az (show(k:Int)<=64/\(64:Int)<=64 by omega),az (show 0<=(c:Int)/\(c:Int)<=(x.length:Int)/\(x.length:Int)<=(x.length:Int)by omega),bt (show((k+c:Nat):Int)=64 by omega),az (show 0<=(0:Int)/\(0:Int)<=64/\(64:Int)<=64 by omega),hcp,f7,Qz2];rfl
  ·refine⟨?_,?_,by rw[hml],hby⟩
   ·rw[hml,show(m.length+c) / 64=q+1 by omega,Bv,XZ (by omega),hblk,<-h1]
   ·rw[hml,show(m.length+c)%64=0 by omega,show 64*((m.length+c) / 64)=m.length+c by omega,aek,List.drop_of_length_le (by omega)]
 ·refine⟨c,(SH,jq 64 SB (k:Int) 64 x,((m.length+c:Nat):Int)),by omega,by omega,?_,?_⟩
  ·unfold gI;dsimp only;rw[hxb];simp only[abR,f9,etm,emin,ec,en,hx1,af,az (show 0<=(k:Int)/\(k:Int)<=64/\(64:Int)<=64 by omega),az (show(k:Int)<=64/\(64:Int)<=64 by omega),az (show 0<=(c:Int)/\(c:Int)<=(x.length:Int)/\(x.length:Int)<=(x.length:Int)by omega),bf (show¬((k+c:Nat):Int)=64 by omega)];rfl
  ·refine⟨?_,?_,by rw[hml],hby⟩
   ·rw[hml,show(m.length+c) / 64=q by omega,XZ (by omega),<-h1]
   ·rw[hml,show(m.length+c)%64=k+c by omega,show(m.length+c) / 64=q by omega,ZN 0 hBl,hdrop,hB];exact List.take_left' (by grind)
theorem GJ(hF:Fed H m S)(x:List UInt8)(hl:m.length+x.length<4611686018427387904):∃S',j7 S x=some S'/\Fed H (m++cU x) S':=by
 unfold j7;obtain⟨r,h1,h2⟩:=gz (f:=gI) (λs=>s.1.length) (λs=>∃m',Fed H m' s.2/\m'++cU s.1=m++cU x) (λr=>Fed H (m++cU x) r)
  (λs hs=>by
   obtain⟨y,S⟩:=s;obtain⟨m',h1,h2⟩:=hs;dsimp only at h1 h2|-;have hlen:m'.length+y.length=m.length+x.length:=by have:=aba List.length h2;simpa only[aaL,B2]using this
   by_cases hy:y=[]
   ·left;subst hy;refine⟨S,rfl,?_⟩;rw[<-h2,show cU ([]:List UInt8)=[]from rfl,abd];exact h1
   ·right;obtain⟨c,S',c1,c2,c3,c4⟩:=abN h1 hy (by omega);refine⟨(y.drop c,S'),c3,⟨_,c4,?_⟩,?_⟩
    ·rw[aaW,<-Tj,adE];exact h2
    grind) (s:=(x,S)) ⟨m,hF,rfl⟩ (by grind)
 grind
theorem Nn{f:List Int->Option (List Int⊕List Int)}{z:Nat}(hz:z<64)(h1:∀j,j<z->f (p++List.replicate j 0)=some (.inl (p++List.replicate j 0++[0])))(h2:f (p++List.replicate z 0)=some (.inr (p++List.replicate z 0))) :
  Itr.it f p=some (p++List.replicate z 0):=
 eC (f:=f) (λs=>p.length+z-s.length) (λ_=>p++List.replicate z 0) (λs=>∃j,s=p++List.replicate j 0/\j<=z)
  (λs hs=>by
   obtain⟨j,rfl,hj⟩:=hs;by_cases h:j<z
   ·right;refine⟨_,h1 j h,⟨j+1,by rw[afK,aaW],by omega⟩,?_,rfl⟩;grind
   grind) (s:=p) ⟨0,by simp,by omega⟩ (by grind)
def lb(n:Nat)(i:Nat):Int:=IntKind.u8.wrap (d9 .u64 (IntKind.u64.wrap (8*(n:Int))) (ae (56-ae (8*(i:Int)))))
def zs(n:Nat):Nat:=(119-n%64)%64
def tail(n:Nat):List Int:=([128]++List.replicate (zs n) 0)++(List.range' 0 8).map (lb n)
theorem aeh(g:Nat->Int)(l:List Nat):∀p:List Int,l.foldl (λx i=>x++[g i]) p=p++l.map g:=by
 induction l with
 |nil=>intro p;simp
 |cons a l ih=>grind
theorem w8(x:Int):0<=IntKind.u8.wrap x/\IntKind.u8.wrap x<256:=by rw[IntKind.wrap_u8'];omega
theorem Md(n:Nat):wB (tail n):=by
 refine ya (ya (λx hx=>?_) λx hx=>?_) λx hx=>?_
 ·grind
 ·grind
 ·obtain⟨i,_,rfl⟩:=aaG.1 hx;exact w8 _
theorem af9(n:Nat):(tail n).length=9+zs n:=by unfold tail;grind
theorem Ro{f:List Int×Int->Option ((List Int×Int)⊕List Int)}(hp:p.length<140737488355000)
  (h1:∀(x:List Int) (i:Nat),i<8->aH x.length 1 1=true->f (x,(i:Int))=some (.inl (x++[lb n i],ae ((i:Int)+1)))) (h2:∀x,f (x,(8:Int))=some (.inr x)):Itr.it f (p,0)=some (p++(List.range' 0 8).map (lb n)):=by
 have h:=(mP (f:=f) (λi x=>(x,i)) 0 8 (λx i=>x++[lb n i]) (λx=>x) (λi x=>x.length=p.length+i) (by omega) (by omega)
  (λi x _ hi hI=>⟨by
   rw[h1 x i hi (aT (by omega) (by omega)),aM (by omega) (by omega)],by grind⟩)
  (λx _=>h2 x) (x:=p) rfl).1
 rw[<-aeh];exact h
theorem YZ(hn:n<4611686018427387904)(hS:S.2.2=n):Itr.it (jO S) [128]=some ([128]++List.replicate (zs n) 0)/\Itr.it (np S) ([128]++List.replicate (zs n) 0,0)=some (tail n):=by
 have hz:zs n<64:=akH _ (by omega);have step:∀j,j<=zs n->(Int.tmod (ae ((ae S.2.2)+((([128]:List Int)++List.replicate j 0).length:Int))) 64)=(((n+1+j)%64:Nat):Int):=λj hj=>by rw[hS,aM (x:=(n:Int)) (by omega) (by omega)];simp only[aaL,adk,acn,al9];rw[aM (by omega) (by omega),ad2 (by omega)];omega
 refine⟨Nn hz (λj hj=>?_) ?_,Ro (by grind) (λx i hi ha=>?_) λx=>?_⟩
 ·unfold jO;rw[step j (by omega),nt (by unfold zs at hj;omega),aT (by grind) (by omega)];rfl
 ·unfold jO;rw[step _ (aaT _),nf (by unfold zs;omega)];rfl
 ·unfold np;have e:ae (8*(i:Int))=8*(i:Int):=aM (by omega) (by omega);have e2:ae (56-8*(i:Int))=56-8*(i:Int):=aM (by omega) (by omega);have ha':aH x.length ([lb n i]:List Int).length 1=true:=ha;have el:IntKind.u8.wrap (d9 .u64 (IntKind.u64.wrap (8*S.2.2)) (56-8*(i:Int)))=lb n i:=by unfold lb;rw[e,e2,hS]
  simp only[az (show(i:Int)<8 by omega),f9,e,e2,el,az (show(0:Int)<=56-8*(i:Int)by omega),af,ha']
 rfl
theorem af5(hm:m.length<140737488354000):lJ m=some (m++tail m.length):=by
 have hz:zs m.length<64:=akH _ (by omega);have step:∀j,(Int.tmod (((([]++m)++([128]:List Int))++List.replicate j 0).length:Int) 64)=(((m.length+1+j)%64:Nat):Int):=λj=>by grind
 have h1:Itr.it (gU) (([]++m)++([128]:List Int))=some ((([]++m)++([128]:List Int))++List.replicate (zs m.length) 0):=by
  refine Nn hz (λj hj=>?_) ?_
  ·unfold gU;rw[step j,nt (by unfold zs at hj;omega),aT (by simp only[aaL,adk,acn,al9];omega) (by omega)];rfl
  ·unfold gU;rw[step,nf (by unfold zs;omega)];rfl
 have h2:∀p:List Int,p.length<140737488355000->Itr.it (kQ m) (p,0)=some (p++(List.range' 0 8).map (lb m.length)):=λp hp=>by
  refine Ro hp (λx i hi ha=>?_) λx=>?_
  ·unfold kQ;have e:ae (8*(i:Int))=8*(i:Int):=aM (by omega) (by omega);have e2:ae (56-8*(i:Int))=56-8*(i:Int):=aM (by omega) (by omega);have ha':aH x.length ([lb m.length i]:List Int).length 1=true:=ha;have el:IntKind.u8.wrap (d9 .u64 (IntKind.u64.wrap (8*IntKind.u64.wrap (m.length:Int))) (56-8*(i:Int)))=lb m.length i:=by unfold lb;rw[e,e2,show IntKind.u64.wrap (m.length:Int)=m.length by rw[IntKind.wrap_u64];omega]
   simp only[az (show(i:Int)<8 by omega),f9,e,e2,el,az (show(0:Int)<=56-8*(i:Int)by omega),af,ha']
  rfl
 unfold lJ;rw[aT (by grind) (by omega),aT (by grind) (by omega)];simp only[af,f9];refine(aba (λo:Option (List Int)=>o.bind _) h1).trans ?_;rw[f7];refine(aba (λo:Option (List Int)=>o.bind _) (h2 _ (by simp only[aaL,adk,acn,al9];omega))).trans ?_;rw[f7];unfold tail;grind
def FD:List Int:=[1779033703,3144134277,1013904242,2773480762,1359893119,2600822924,528734635,1541459225]
theorem Vj(hp:wB p)(hl:p.length<4611686018427387904)(h64:p.length%64=0)(H:List Int):Itr.it (jy p) (0,H)=some (Hs p H (p.length / 64)):=by
 refine eC (f:=jy p) (λs=>p.length-s.1.toNat) (λ_=>Hs p H (p.length / 64)) (λs=>∃i:Nat,s=(((64*i:Nat):Int),Hs p H i)/\64*i<=p.length) (λs hs=>?_) (s:=(0,H)) ⟨0,by rfl,by omega⟩ (by grind);obtain⟨i,rfl,hi⟩:=hs;unfold jy;by_cases h:64*i<p.length
 ·right;have hb:jM ((p.take (64*i+64)).drop (64*i)) 64:=aaa hp (by omega);refine⟨(((64*(i+1):Nat):Int),Hs p H (i+1)),?_,⟨i+1,rfl,by omega⟩,by grind,rfl⟩;rw[az (show((64*i:Nat):Int)<(p.length:Int)by omega),Bv];simp only[f9,aeq (H:=Hs p H i) (show 64*i+64<=p.length by omega) hl hb,f7,Qz2,aM (x:=((64*i:Nat):Int)+64) (by omega) (by omega)];rfl
 ·left;grind
def ob(H:List Int)(i:Nat):Int:=IntKind.u8.wrap (d9 .u32 (H.getD (i / 4) 0) ((24-8*(i%4):Nat):Int))
theorem afc{d:α}(g:Nat->α)(w:List α):∀i,i<=n->(List.range' 0 i).foldl (λw i=>cz n d w i (g i)) w=if i=0 then w else(List.range n).map (λj=>if j<i then g j else w.getD j d):=by
 intro i;induction i with
 |zero=>intro _;rfl
 |succ i ih=>
  intro hi;rw[List.range'_concat,alf,ih (by omega),if_neg (show¬i+1=0 by omega)];show cz n d _ (0+1*i) (g (0+1*i))=_;rw[show 0+1*i=i by omega];unfold cz;refine adg λj hj=>?_;grind
theorem LQ(H:List Int)(hS:S.1=H):Itr.it (j9 S) (0,[])=some ((List.range 32).map (ob H))/\Itr.it (jv H) (0,[])=some ((List.range 32).map (ob H)):=by
 have ef:(List.range' 0 32).foldl (λw i=>cz 32 (0:Int) w i (ob H i)) []=(List.range 32).map (ob H):=by rw[afc _ _ 32 (by omega),if_neg (by omega)];simp_all
 have a1:∀i:Nat,i<32->ae (Int.tdiv (i:Int) 4)=((i / 4:Nat):Int):=λi hi=>by rw[ak3 (by omega),aM (by omega) (by omega)];omega
 have a2:∀i:Nat,i<32->ae (24-ae (8*Int.tmod (i:Int) 4))=((24-8*(i%4):Nat):Int):=λi hi=>by rw[ad2 (by omega),aM (x:=8*((i:Int)%4)) (by omega) (by omega),aM (by omega) (by omega)];omega
 constructor
 ·have h:=(mP (f:=j9 S) (λi x=>(i,x)) 0 32 (λw i=>cz 32 (0:Int) w i (ob H i)) (λx=>x) (λ_ _=>True) (by omega) (by omega)
   (λi x _ hi _=>⟨by
    unfold j9 ob;simp only[a1 i hi,a2 i hi,hS,aaR,af,az (show(i:Int)<32 by omega),f9,az (show 0<=((i / 4:Nat):Int)/\((i / 4:Nat):Int)<8 by omega),az (show 0<=((24-8*(i%4):Nat):Int)by omega),az (show 0<=(i:Int)/\(i:Int)<32 by omega),aM (x:=(i:Int)+1) (by omega) (by omega)];rfl,trivial⟩)
   (λx _=>by rfl) (x:=[]) trivial).1
  grind
 ·have h:=(mP (f:=jv H) (λi x=>(i,x)) 0 32 (λw i=>cz 32 (0:Int) w i (ob H i)) (λx=>x) (λ_ _=>True) (by omega) (by omega)
   (λi x _ hi _=>⟨by
    unfold jv ob;simp only[a1 i hi,a2 i hi,aaR,af,az (show(i:Int)<32 by omega),f9,az (show 0<=((i / 4:Nat):Int)/\((i / 4:Nat):Int)<8 by omega),az (show 0<=((24-8*(i%4):Nat):Int)by omega),az (show 0<=(i:Int)/\(i:Int)<32 by omega),aM (x:=(i:Int)+1) (by omega) (by omega)];rfl,trivial⟩)
   (λx _=>by rfl) (x:=[]) trivial).1
  grind
def acq(m:List Int):List Int:=(List.range 32).map (ob (Hs (m++tail m.length) FD ((m++tail m.length).length / 64)))
theorem afR(hl:m.length<140737488354000)(hF:Fed FD m S):oG S=some (acq m)/\nN m=some (acq m):=by
 have hz:zs m.length<64:=akH _ (by omega);have ht:=af9 m.length;constructor
 ·obtain⟨h1,h2⟩:=YZ (n:=m.length) (by omega) hF.n;obtain⟨S',h3,h4⟩:=GJ hF (mS (tail m.length)) (by rw[Ek,ht];omega);rw[ad9 (Md _)]at h4;unfold oG;refine(aba (λo:Option (List Int)=>o.bind _) h1).trans ?_;rw[f7];refine(aba (λo:Option (List Int)=>o.bind _) h2).trans ?_;rw[f7];refine(aba (λo:Option cp=>o.bind _) h3).trans ?_;rw[f7];exact(aba (λo:Option (List Int)=>o.bind _) (LQ _ h4.h).1).trans rfl
 ·have hb:wB (m++tail m.length):=ya hF.y (Md _);unfold nN;rw[af5 hl,f7];refine(aba (λo:Option (List Int)=>o.bind _) (Vj hb (by grind) (by rw[aaL,ht];unfold zs;omega) FD)).trans ?_;rw[f7];exact(aba (λo:Option (List Int)=>o.bind _) (LQ _ (S:=(_,[],0)) rfl).2).trans rfl
theorem aoO(h0:0<=y)(h1:y<18446744073709551616):bj .xor .u64 (if IntKind.signed .u64 then -1 else IntKind.max .u64) y=18446744073709551615-y:=by
 have e:BitVec.ofInt 64 (if IntKind.signed .u64 then -1 else IntKind.max .u64)=BitVec.allOnes 64:=by decide
 show IntKind.u64.wrap ((BitVec.ofInt 64 (if IntKind.signed .u64 then -1 else IntKind.max .u64) ^^^ BitVec.ofInt 64 y).toNat:Int)=_;rw[e,BitVec.allOnes_xor,BitVec.toNat_not,akV,IntKind.wrap_u64];omega
theorem arK(h0:0<=y)(h1:y<256):bj .xor .u8 y 255=255-y:=by
 have e:BitVec.ofInt 8 255=BitVec.allOnes 8:=by decide
 show IntKind.u8.wrap ((BitVec.ofInt 8 y ^^^ BitVec.ofInt 8 255).toNat:Int)=_;rw[e,BitVec.xor_comm,BitVec.allOnes_xor,BitVec.toNat_not,akV,IntKind.wrap_u8'];omega
theorem arx(h0:0<=y)(h1:y<256):bj .xor .u8 y 0=y:=by show IntKind.u8.wrap ((BitVec.ofInt 8 y ^^^ BitVec.ofInt 8 0).toNat:Int)=_;rw[show BitVec.ofInt 8 0=0#8 from rfl,BitVec.xor_zero,akV,IntKind.wrap_u8'];omega
theorem R7(v:Nat)(hk:k<=64):d9 .u64 (v:Int) (k:Int)=((v / 2 ^ k:Nat):Int):=by
 have e:min (k:Int).toNat 64=k:=by omega
 show(v:Int).fdiv (2 ^ (min (k:Int).toNat 64))=_;grind
def nb(v:Nat):Nat:=if h:v=0 then 0 else nb (v / 256)+1
termination_by v
decreasing_by omega
theorem uP(k:Nat):∀v,v / 256 ^ k=0↔nb v<=k:=by
 induction k with
 |zero=>intro v;rw[Nat.pow_zero,Nat.div_one];unfold nb;grind
 |succ k ih=>
  intro v;rw[ak7,<-afF,ih];conv=>rhs;rw[nb]
  split
  ·next h=>subst h;rw[Nat.zero_div,nb];simp
  ·omega
theorem aoq(k:Nat):2 ^ (8*k)=256 ^ k:=by rw[Nat.pow_mul]
def dg(v i:Nat):Nat:=v / 256 ^ i%256
theorem ahE{f:List Int×Int->Option ((List Int×Int)⊕List Int)}(hn:n<100)(g:Nat->Int)(hp:p.length<140737488355000)
  (h1:∀(q:List Int) (i:Nat),i<n->aH q.length 1 1=true->f (q,(i:Int))=some (.inl (q++[g i],ae ((i:Int)-1)))) (h2:∀q,f (q,-1)=some (.inr q)):Itr.it f (p,(n:Int)-1)=some (p++(List.range n).reverse.map g):=
 eC (f:=f) (λs=>(s.2+1).toNat) (λ_=>p++(List.range n).reverse.map g) (λs=>∃k:Nat,k<=n/\s.2=(k:Int)-1/\s.1.length+k=p.length+n/\s.1++(List.range k).reverse.map g=p++(List.range n).reverse.map g)
  (λs hs=>by
   obtain⟨q,z⟩:=s;obtain⟨k,k1,k2,k3,k4⟩:=hs;dsimp only at k2 k3 k4|-;cases k with
   |zero=>
    grind
   |succ k=>
    right;have e:z=(k:Int):=by omega
    refine⟨(q++[g k],ae ((k:Int)-1)),?_,⟨k,by omega,aM (by omega) (by omega),by grind,?_⟩,?_,rfl⟩
    ·rw[e];exact h1 q k (by omega) (aT (by omega) (by omega))
    ·rw[<-k4,akL,List.reverse_append,aaW];rfl
    ·show(ae ((k:Int)-1)+1).toNat<_;rw[aM (by omega) (by omega)];omega) (s:=(p,(n:Int)-1)) ⟨n,aaT _,rfl,rfl,rfl⟩ (by grind)
def cn(x:Int):Nat:=if x<0 then(-1-x).toNat else x.toNat
def rS(x b:Int):Int:=if x<0 then 255-b else b
def iK(x:Int):List Int:=(if x<0 then 127-(nb (cn x):Int)else 128+(nb (cn x):Int))::(List.range (nb (cn x))).reverse.map (λi=>rS x (dg (cn x) i))
theorem yu(h:aY x):cn x<9223372036854775808/\nb (cn x)<=8:=by
 have h1:cn x<9223372036854775808:=by obtain⟨a,b⟩:=h;unfold cn;grind
 exact⟨h1,(uP 8 _).1 (Nat.div_eq_of_lt (akR h1 (by decide)))⟩
theorem pD(h:aY x):(iK x).length<=9:=by have:=(yu h).2;unfold iK;grind
theorem VT(v i:Nat):dg v i<256:=akH _ (by omega)
theorem aei(h:aY x):wB (iK x):=by
 have:=(yu h).2;intro b hb;rcases aaK.1 hb with rfl|hb
 ·grind
 ·obtain⟨i,_,rfl⟩:=aaG.1 hb;have:=VT (cn x) i;unfold rS;grind
theorem yH(h:aY x):pd x=some (iK x):=by
 obtain⟨h1,h2⟩:=yu h;obtain⟨a,b⟩:=h
 have key:∀mk:Int,(∀y:Int,0<=y->y<256->bj .xor .u8 y mk=rS x y)->((Itr.it (kY ((cn x:Int),mk)) 8).bind λs2=>(Itr.it (sM ((cn x:Int),mk)) ([bj .xor .u8 (IntKind.u8.wrap (ae (128+s2))) mk],ae (s2-1))).bind λs4=>some s4)=some (iK x):=by
  intro mk hmk;have l1:Itr.it (kY ((cn x:Int),mk)) 8=some ((nb (cn x):Nat):Int):=
   eC (f:=kY ((cn x:Int),mk)) (λs=>s.toNat) (λ_=>((nb (cn x):Nat):Int)) (λs=>∃k:Nat,s=(k:Int)/\nb (cn x)<=k/\k<=8)
    (λs hs=>by
     obtain⟨k,rfl,k1,k2⟩:=hs;cases k with
     |zero=>left;rw[show nb (cn x)=0 by omega];rfl
     |succ k=>
      have e1:ae (((k+1:Nat):Int)-1)=(k:Int):=by rw[aM (by omega) (by omega)];omega
      have e2:ae (8*(k:Int))=((8*k:Nat):Int):=by rw[aM (by omega) (by omega)];omega
      have hk:=uP k (cn x);have ef:kY ((cn x:Int),mk) ((k+1:Nat):Int)=bif decide (0<((cn x / 256 ^ k:Nat):Int))then some (.inr ((k+1:Nat):Int))else some (.inl (k:Int)):=by unfold kY;rw[az (show(0:Int)<((k+1:Nat):Int)by omega)];simp only[f9,e1,e2,af,az (show(0:Int)<=((8*k:Nat):Int)by omega),R7 (cn x) (show 8*k<=64 by omega),aoq]
      rw[ef];generalize cn x / 256 ^ k=V at hk;by_cases hz:V=0
      ·right;rw[bN (by omega)];exact⟨(k:Int),rfl,⟨k,rfl,hk.1 hz,by omega⟩,by omega,rfl⟩
      ·left;grind) (s:=8) ⟨8,rfl,h2,aaT _⟩ (by decide)
  have e1:ae (128+((nb (cn x):Nat):Int))=128+((nb (cn x):Nat):Int):=aM (by omega) (by omega);have e2:ae (((nb (cn x):Nat):Int)-1)=((nb (cn x):Nat):Int)-1:=aM (by omega) (by omega);have e3:IntKind.u8.wrap (128+((nb (cn x):Nat):Int))=128+((nb (cn x):Nat):Int):=by rw[IntKind.wrap_u8'];omega
  rw[l1,f7,e1,e2,e3,hmk _ (by omega) (by omega),ahE (by omega) (λi=>rS x (dg (cn x) i)) (by simp) (λq i hi ha=>?_) (λq=>rfl),f7]
  ·unfold iK rS;grind
  ·unfold sM;have e2:ae (8*(i:Int))=((8*i:Nat):Int):=by rw[aM (by omega) (by omega)];omega
   have e4:IntKind.u8.wrap ((cn x / 256 ^ i:Nat):Int)=(dg (cn x) i:Int):=by rfl
   have ha':aH q.length ([rS x (dg (cn x) i)]:List Int).length 1=true:=ha;have:=VT (cn x) i;simp only[az (show(0:Int)<=(i:Int)by omega),f9,e2,af,az (show(0:Int)<=((8*i:Nat):Int)by omega),R7 (cn x) (show 8*i<=64 by omega),aoq,e4,hmk _ (show(0:Int)<=(dg (cn x) i:Int)by omega) (show(dg (cn x) i:Int)<256 by omega),ha']
 unfold pd;by_cases hx:x<0
 ·have e:bj .xor .u64 (if IntKind.signed .u64 then -1 else IntKind.max .u64) (IntKind.u64.wrap x)=(cn x:Int):=by
   have e0:IntKind.u64.wrap x=x+18446744073709551616:=by rw[IntKind.wrap_u64];omega
   rw[e0,aoO (by omega) (by omega)];unfold cn;grind
  rw[az hx];simp only[f9,f7,Qz2,e];exact key 255 λy h0 h1=>by unfold rS;rw[if_pos hx];exact arK h0 h1
 ·have e:IntKind.u64.wrap x=(cn x:Int):=by
   rw[IntKind.wrap_u64];unfold cn;grind
  rw[bN hx];simp only[aax,f7,Qz2,e];exact key 0 λy h0 h1=>by unfold rS;rw[if_neg hx];exact arx h0 h1
theorem Bw(h:aY x):fO x=some (iK x):=by
 obtain⟨h1,h2⟩:=yu h;obtain⟨a,b⟩:=h
 have l1:Itr.it ju ((cn x:Int),[])=some ((List.range (nb (cn x))).map λi=>(dg (cn x) i:Int)):=
  eC (f:=ju) (λs=>nb (cn x)-s.2.length) (λ_=>(List.range (nb (cn x))).map λi=>(dg (cn x) i:Int)) (λs=>∃k:Nat,s=(((cn x / 256 ^ k:Nat):Int),(List.range k).map λi=>(dg (cn x) i:Int))/\k<=nb (cn x))
   (λs hs=>by
    obtain⟨k,rfl,hk⟩:=hs;have hk1:=uP k (cn x);have hle:cn x / 256 ^ k<9223372036854775808:=Nat.lt_of_le_of_lt (Nat.div_le_self ..) h1;have hV2:cn x / 256 ^ (k+1)=cn x / 256 ^ k / 256:=by rw[Nat.pow_succ,<-afF]
    have hV3:dg (cn x) k=cn x / 256 ^ k%256:=rfl;generalize hV:cn x / 256 ^ k=V at *;unfold ju;by_cases hz:V=0
    ·grind
    ·right;have hlt:k<nb (cn x):=by
      grind
     have e1:ae (Int.tdiv (V:Int) 256)=((cn x / 256 ^ (k+1):Nat):Int):=by rw[hV2,ak3 (by omega),aM (by omega) (by omega)];omega
     have e2:IntKind.u8.wrap (Int.tmod (V:Int) 256)=(dg (cn x) k:Int):=by rw[ad2 (by omega),IntKind.wrap_u8',hV3];omega
     have ha:aH ((List.range k).map λi=>(dg (cn x) i:Int)).length ([(dg (cn x) k:Int)]:List Int).length 1=true:=aT (by grind) (by omega);refine⟨(((cn x / 256 ^ (k+1):Nat):Int),(List.range (k+1)).map λi=>(dg (cn x) i:Int)),?_,⟨k+1,rfl,by omega⟩,by grind,rfl⟩;rw[az (show(0:Int)<(V:Int)by omega)];simp only[f9,e1,e2,af,ha,akL,acw];rfl) (s:=((cn x:Int),[])) ⟨0,by grind,by omega⟩ (by grind)
 have l2:∀p:List Int,p.length<100->Itr.it (mv x ((List.range (nb (cn x))).map λi=>(dg (cn x) i:Int))) (p,((nb (cn x):Nat):Int)-1)=some (p++(List.range (nb (cn x))).reverse.map (λi=>rS x (dg (cn x) i))):=by
  intro p hp;refine ahE (by omega) (λi=>rS x (dg (cn x) i)) (by omega) (λq i hi ha=>?_) λq=>rfl;have:=VT (cn x) i;have hx:ac ((List.range (nb (cn x))).map λi=>(dg (cn x) i:Int)) (i:Int)=some (dg (cn x) i:Int):=by refine(aO 0 (by simpa using hi)).trans (aba some ?_);grind
  have ha':aH q.length ([rS x (dg (cn x) i)]:List Int).length 1=true:=ha;have ef:(bif decide (x<0)then some (IntKind.u8.wrap (255-(dg (cn x) i:Int)))else some (dg (cn x) i:Int))=some (rS x (dg (cn x) i)):=by
   unfold rS;by_cases h:x<0
   ·rw[az h,if_pos h,IntKind.wrap_u8'];grind
   grind
  unfold mv;simp only[az (show(0:Int)<=(i:Int)by omega),f9,hx,f7,Qz2,ef,af,ha']
 have e2:ae (((nb (cn x):Nat):Int)-1)=((nb (cn x):Nat):Int)-1:=aM (by omega) (by omega);unfold fO;have em:(bif decide (x<0)then some (ae (-1-x))else some x)=some (cn x:Int):=by
  unfold cn;by_cases h:x<0
  ·rw[az h,if_pos h,aM (by omega) (by omega)];grind
  grind
 rw[em,f7];refine(aba (λo:Option (List Int)=>o.bind _) l1).trans ?_;simp only[f7,Qz2,aee,ajF,e2];have hd:∀z:Int,aH ([]:List Int).length ([z]:List Int).length 1=true:=λz=>aT (by simp) (by omega);have eh:(bif decide (0<=x)then af (aH ([]:List Int).length ([IntKind.u8.wrap (ae (128+((nb (cn x):Nat):Int)))]:List Int).length 1) (some ([]++[IntKind.u8.wrap (ae (128+((nb (cn x):Nat):Int)))]))else af (aH ([]:List Int).length ([IntKind.u8.wrap (ae (127-((nb (cn x):Nat):Int)))]:List Int).length 1) (some ([]++[IntKind.u8.wrap (ae (127-((nb (cn x):Nat):Int)))])))
   = some [if x<0 then 127-(nb (cn x):Int)else 128+(nb (cn x):Int)]:=by
  rw[hd,hd];by_cases h:x<0
  ·rw[bN (by omega),if_pos h,aM (x:=127-((nb (cn x):Nat):Int)) (by omega) (by omega),show IntKind.u8.wrap (127-((nb (cn x):Nat):Int))=127-((nb (cn x):Nat):Int)by rw[IntKind.wrap_u8'];omega];rfl
  ·rw[az (show 0<=x by omega),if_neg h,aM (x:=128+((nb (cn x):Nat):Int)) (by omega) (by omega),show IntKind.u8.wrap (128+((nb (cn x):Nat):Int))=128+((nb (cn x):Nat):Int)by rw[IntKind.wrap_u8'];omega];rfl
 refine(aba (λo:Option (List Int)=>o.bind _) eh).trans ?_;rw[f7];exact(aba (λo:Option (List Int)=>o.bind _) (l2 _ (by simp))).trans rfl
theorem Zz(enc:α->List Int){xs:List α}{a:α}(h:xs[i]?=some a):(xs.take (i+1)).flatMap enc=(xs.take i).flatMap enc++enc a:=by rw[alc,h,List.flatMap_append];simp
theorem akP(enc:α->List Int)(xs:List α)(i:Nat):((xs.take i).flatMap enc).length<=(xs.flatMap enc).length:=by
 conv=>rhs;rw[<-adE i xs,List.flatMap_append,aaL]
 omega
theorem yD{enc:α->List Int}{b:Nat}:∀{xs:List α},(∀x∈xs,(enc x).length<=b)->(xs.flatMap enc).length<=b*xs.length:=by
 intro xs;induction xs with
 |nil=>intro _;simp
 |cons x xs ih=>
  intro h;have h1:=h x (.head _);have h2:=ih λy hy=>h y (.tail _ hy);rw[ako,aaL,acn,Nat.mul_succ];omega
theorem pw{S:Type}(mk:List Int->Int->S)(xs:List α)(enc:α->List Int){f:S->Option (S⊕List Int)}(hx:xs.length<=4194304)(hl:p.length+(xs.flatMap enc).length<=140737488355328)
  (h1:∀(i:Nat) (a:α) (q:List Int),i<xs.length->xs[i]?=some a->q.length+(enc a).length<=140737488355328->f (mk q i)=some (.inl (mk (q++enc a) ((i:Int)+1)))) (h2:∀q,f (mk q xs.length)=some (.inr q)):Itr.it f (mk p 0)=some (p++xs.flatMap enc):=by
 have h:=(Ql (f:=f) (λi q=>mk q i) xs (λq a=>q++enc a) (λq=>q) (λi q=>q=p++(xs.take i).flatMap enc) (by omega)
  (λi a q hk hI=>by
   have hq:(q++enc a)=p++(xs.take (i+1)).flatMap enc:=by rw[Zz enc hk,hI,aaW]
   refine⟨h1 i a q (fc hk) hk ?_,hq⟩;have e:=aba List.length hq;rw[aaL,aaL]at e;have:=akP enc xs (i+1);omega)
  (λq _=>h2 q) (a:=p) (by simp))
 refine h.trans (aba some ?_);clear h h1 h2 hl hx;induction xs generalizing p with
 |nil=>simp
 |cons x xs ih=>grind
def eQ(l:List Int):Prop:=∀x∈l,aY x
def cx(l:List Int):List Int:=iK l.length++l.flatMap iK
def lP(t:List UInt8):List Int:=iK t.length++cU t
def lA(t:List UInt8):List Int:=iK 1++lP t
theorem ol{l:List α}(h:l.length<=140737488355328):aY (l.length:Int):=⟨by omega,by omega⟩
theorem HF(h:eQ l):(l.flatMap iK).length<=9*l.length:=yD λx hx=>pD (h x hx)
theorem pz(h:eQ l)(hl:l.length<=4194304):(cx l).length<=9+9*l.length:=by have h1:=pD (ol (l:=l) (by omega));have h2:=HF h;unfold cx;grind
theorem MZ{t:List UInt8}(hl:t.length<=4194304):(lP t).length<=9+t.length:=by have h1:=pD (ol (l:=t) (by omega));unfold lP;rw[aaL,B2];omega
theorem aaV{t:List UInt8}(hl:t.length<=4194304):(lA t).length<=18+t.length:=by have h1:=pD (x:=1) ⟨by omega,by omega⟩;have h2:=MZ hl;unfold lA;grind
theorem mb(h:eQ l)(hl:l.length<=4194304):tP l=some (cx l)/\de l=some (cx l):=by
 have hI:=ol (l:=l) (by omega);have h1:=pD hI;have h2:=HF h;have step:∀(i:Nat) (a:Int),i<l.length->l[i]?=some a->ac l (i:Int)=some a/\aY a/\ae ((i:Int)+1)=(i:Int)+1:=λi a hi ha=>⟨cL ha,h a (abY ha),aM (by omega) (by omega)⟩
 constructor
 ·unfold tP;rw[yH hI,f7];refine(aba (λo:Option (List Int)=>o.bind _) (pw (λq i=>(q,i)) l iK (f:=oI l) (p:=iK l.length) hl (by omega) (λi a q hi ha hq=>?_) (λq=>?_))).trans rfl
  ·obtain⟨e1,e2,e3⟩:=step i a hi ha;unfold oI;simp only[az (show(i:Int)<(l.length:Int)by omega),f9,e1,f7,Qz2,yH e2,e3,af,aT (m:=q.length) (k:=(iK a).length) (b:=1) (by omega) (by omega)]
  ·unfold oI;grind
 ·unfold de;rw[Bw hI,f7];refine(aba (λo:Option (List Int)=>o.bind _) (pw (λq i=>(q,i)) l iK (f:=iO l) (p:=iK l.length) hl (by omega) (λi a q hi ha hq=>?_) (λq=>?_))).trans rfl
  ·obtain⟨e1,e2,e3⟩:=step i a hi ha;unfold iO;simp only[az (show(i:Int)<(l.length:Int)by omega),f9,e1,f7,Qz2,Bw e2,e3,af,aT (m:=q.length) (k:=(iK a).length) (b:=1) (by omega) (by omega)]
  ·unfold iO;grind
theorem EY{t:List UInt8}(hl:t.length<=70368744177664):sj t=some (lP t)/\jH t=some (lP t):=by
 have hI:=ol (l:=t) (by omega);have h1:=pD hI;have ha:aH (iK t.length).length t.length 1=true:=aT (by omega) (by omega);have hm:t.length<=maxLen:=by unfold maxLen;omega
 constructor
 ·unfold sj;rw[yH hI,f7,ha];rfl
 ·unfold jH;rw[Bw hI,f7,az hm,aee,ha];rfl
theorem Tc{t:List UInt8}(hl:t.length<=4194304):se [t]=some (lA t)/\kO [t]=some (lA t):=by
 have hI:aY 1:=⟨by omega,by omega⟩
 have h1:=pD hI;have h2:=MZ hl;obtain⟨b1,b2⟩:=EY (t:=t) (by omega);have step:∀(i:Nat) (a:List UInt8),i<[t].length->[t][i]?=some a->ac [t] (i:Int)=some t/\a=t/\ae ((i:Int)+1)=(i:Int)+1:=λi a hi ha=>by
  have:i=0:=by simpa using hi
  subst this;injection ha with ha;exact⟨rfl,ha.symm,rfl⟩
 have e:iK 1++[t].flatMap lP=lA t:=by unfold lA;simp
 have hlen:(iK 1).length+([t].flatMap lP).length<=140737488355328:=by grind
 constructor
 ·unfold se;rw[show pd (([t]:List (List UInt8)).length:Int)=some (iK 1)from yH hI,f7,<-e];refine(aba (λo:Option (List Int)=>o.bind _) (pw (λq i=>(q,i)) [t] lP (f:=oX [t]) (p:=iK 1) (by simp) hlen (λi a q hi ha hq=>?_) (λq=>?_))).trans rfl
  ·obtain⟨e1,e2,e3⟩:=step i a hi ha;subst e2;unfold oX;simp only[az (show(i:Int)<(([a]:List (List UInt8)).length:Int)by omega),f9,e1,f7,b1,e3,af,aT (m:=q.length) (k:=(lP a).length) (b:=1) (by omega) (by omega)]
  ·rfl
 ·unfold kO;rw[show fO (([t]:List (List UInt8)).length:Int)=some (iK 1)from Bw hI,f7,<-e];refine(aba (λo:Option (List Int)=>o.bind _) (pw (λq i=>(q,i)) [t] lP (f:=ke [t]) (p:=iK 1) (by simp) hlen (λi a q hi ha hq=>?_) (λq=>?_))).trans rfl
  ·obtain⟨e1,e2,e3⟩:=step i a hi ha;subst e2;unfold ke;simp only[az (show(i:Int)<(([a]:List (List UInt8)).length:Int)by omega),f9,e1,f7,b2,e3,af,aT (m:=q.length) (k:=(lP a).length) (b:=1) (by omega) (by omega)]
  ·rfl
theorem RB(v i:Nat):dg v (i+1)=dg (v / 256) i:=by unfold dg;rw[ak7,<-afF]
theorem anY:∀(n v u:Nat),nb v<=n->nb u<=n->(∀i,i<n->dg v i=dg u i)->v=u:=by
 intro n;induction n with
 |zero=>
  intro v u hv hu _;have h1:=(uP 0 v).2 hv;have h2:=(uP 0 u).2 hu;grind
 | succ n ih=>
  intro v u hv hu h;have e:v / 256=u / 256:=by
   refine ih _ _ ((uP n _).1 ?_) ((uP n _).1 ?_) λi hi=>?_
   ·rw[afF,<-ak7];exact(uP (n+1) v).2 hv
   ·rw[afF,<-ak7];exact(uP (n+1) u).2 hu
   ·rw[<-RB,<-RB];grind
  have h0:=h 0 (by omega);unfold dg at h0;grind
theorem yQ(hx:aY x)(hy:aY y)(h:iK x++a=iK y++b):x=y/\a=b:=by
 have hx8:=(yu hx).2;have hy8:=(yu hy).2;unfold iK at h;rw[acK,acK]at h;injection h with h1 h2;have hs:(x<0↔y<0)/\nb (cn x)=nb (cn y):=by grind
 obtain⟨h3,h4⟩:=List.append_inj h2 (by grind);refine⟨?_,h4⟩;rw[hs.2]at h3;have h5:cn x=cn y:=anY (nb (cn y)) _ _ (by omega) (by omega) λi hi=>by have:=List.map_eq_map_iff.1 h3 i (by simpa using hi);unfold rS at this;grind
 unfold cn at h5;grind
theorem zz{enc:α->List Int}:∀{xs ys:List α} {a b:List Int},(∀x∈xs,∀y∈ys,∀a b,enc x++a=enc y++b->x=y/\a=b)->xs.length=ys.length->xs.flatMap enc++a=ys.flatMap enc++b->xs=ys/\a=b:=by
 intro xs;induction xs with
 |nil=>
  grind
 | cons x xs ih=>
  intro ys a b hi hl h;cases ys with
  |nil=>grind
  |cons y ys=>
   rw[ako,ako,aaW,aaW]at h;obtain⟨e1,h1⟩:=hi x (.head _) y (.head _) _ _ h;obtain⟨e2,h2⟩:=ih (λp hp q hq=>hi p (.tail _ hp) q (.tail _ hq)) (by simpa using hl) h1;grind
theorem oR{k:List Int}(hl:eQ l)(hk:eQ k)(nl:l.length<=4194304)(nk:k.length<=4194304)(h:cx l++a=cx k++b):l=k/\a=b:=by unfold cx at h;rw[aaW,aaW]at h;obtain⟨h1,h2⟩:=yQ (ol (by omega)) (ol (by omega)) h;exact zz (λx hx y hy a b h=>yQ (hl x hx) (hk y hy) h) (by omega) h2
theorem WM{s t:List UInt8}(h:cU s=cU t):s=t:=by
 have h1:mS (cU s)=s:=by unfold mS cU;rw[aeU];refine(adg λx _=>?_).trans (agk s);simp_all
 have h2:mS (cU t)=t:=by unfold mS cU;rw[aeU];refine(adg λx _=>?_).trans (agk t);simp_all
 grind
theorem ad1{s t:List UInt8}(ns:s.length<=4194304)(nt:t.length<=4194304)(h:lA s++a=lA t++b):s=t/\a=b:=by unfold lA lP at h;simp only[aaW]at h;obtain⟨_,h⟩:=yQ ⟨by omega,by omega⟩ ⟨by omega,by omega⟩ h;obtain⟨h1,h⟩:=yQ (ol (by omega)) (ol (by omega)) h;obtain⟨h2,h3⟩:=List.append_inj h (by rw[B2,B2];omega);exact⟨WM h2,h3⟩
structure EncTh(t:Th):Prop where
 n:t.1.length<=128
 f:∀f∈t.1,aY f.1/\eQ f.2/\f.2.length<=1048576
 s:eQ t.2.1/\t.2.1.length<=1048576
 w:aY t.2.2.1
structure EncS(s:aF):Prop where
 n:s.1.length<=128
 t:∀t∈s.1,EncTh t
 v:eQ s.2.1/\s.2.1.length<=1048576
 q:s.2.2.1.length<=1048576/\∀q∈s.2.2.1,eQ q/\q.length<=1048577
 o:eQ s.2.2.2.1/\s.2.2.2.1.length<=1048576
 f:eQ s.2.2.2.2.1/\s.2.2.2.2.1.length<=1048576
 h:eQ [s.2.2.2.2.2.1,s.2.2.2.2.2.2.1,s.2.2.2.2.2.2.2.1.1,s.2.2.2.2.2.2.2.1.2.1,s.2.2.2.2.2.2.2.1.2.2,s.2.2.2.2.2.2.2.2.1,s.2.2.2.2.2.2.2.2.2.1,s.2.2.2.2.2.2.2.2.2.2.1]
 w:s.2.2.2.2.2.2.2.2.2.2.2.length<=1048576
def wt(b:Bool):Int:=if b then 1 else 0
def lZ(f:Fr):List Int:=cx (f.1::f.2)
def je(t:Th):List Int:=cx [t.2.2.1,wt t.2.2.2,t.1.length]++(t.1.flatMap lZ++cx t.2.1)
def lH(s:aF):List Int:=[(s.1.length:Int),(s.2.2.1.length:Int),s.2.2.2.2.2.1,s.2.2.2.2.2.2.1,s.2.2.2.2.2.2.2.1.1,s.2.2.2.2.2.2.2.1.2.1,s.2.2.2.2.2.2.2.1.2.2,s.2.2.2.2.2.2.2.2.1,s.2.2.2.2.2.2.2.2.2.1,s.2.2.2.2.2.2.2.2.2.2.1]
def nG(s:aF):List Int:=cx (lH s)++(lA s.2.2.2.2.2.2.2.2.2.2.2++(s.1.flatMap je++(cx s.2.1++(s.2.2.1.flatMap cx++(cx s.2.2.2.1++cx s.2.2.2.2.1)))))
theorem io(h:aY x)(hl:eQ l):eQ (x::l):=λy hy=>(aaK.1 hy).elim (λe=>e▸h) (hl y)
theorem ot:eQ []:=λy hy=>by cases hy
theorem apx(b:Bool):aY (wt b):=by unfold wt;split<;>exact⟨by omega,by omega⟩
theorem Ag(h:EncTh t):eQ [t.2.2.1,wt t.2.2.2,(t.1.length:Int)]:=io h.w (io (apx _) (io (ol (by have:=h.n;omega)) ot))
theorem EN(h:EncS s):eQ (lH s):=io (ol (by have:=h.n;omega)) (io (ol (by have:=h.q.1;omega)) h.h)
theorem tI(h:aY f.1/\eQ f.2/\f.2.length<=1048576):eQ (f.1::f.2)/\(f.1::f.2).length<=1048577/\(lZ f).length<=9437202:=by
 have h1:eQ (f.1::f.2):=io h.1 h.2.1;have h2:(f.1::f.2).length<=1048577:=by grind
 have:=pz h1 (by omega);exact⟨h1,h2,by unfold lZ;omega⟩
theorem FU(h:EncTh t):(t.1.flatMap lZ).length<=1207961856:=by have:=yD (enc:=lZ) (b:=9437202) (xs:=t.1) λf hf=>(tI (h.f f hf)).2.2;have:=h.n;omega
theorem afv(h:EncTh t):(je t).length<=1217399094:=by have h1:=pz (Ag h) (by simp);have h2:=FU h;have h3:=pz h.s.1 (by have:=h.s.2;omega);have h4:=h.s.2;have h5:([t.2.2.1,wt t.2.2.2,(t.1.length:Int)]:List Int).length=3:=rfl;unfold je;grind
theorem akk(h:EncS s):(s.1.flatMap je).length<=155827084032:=by have:=yD (enc:=je) (b:=1217399094) (xs:=s.1) λt ht=>afv (h.t t ht);have:=h.n;omega
theorem apE(h:EncS s):(s.2.2.1.flatMap cx).length<=9895623524352:=by
 have:=yD (enc:=cx) (b:=9437202) (xs:=s.2.2.1) λq hq=>by have h1:=h.q.2 q hq;have:=pz h1.1 (by omega);omega
 have:=h.q.1;omega
theorem agf(h:EncS s):(cx (lH s)).length<=99:=pz (EN h) (by show 10<=_;omega)
theorem CV(h:EncS s):(nG s).length<=20000000000000:=by have h1:=agf h;have h2:=aaV (t:=s.2.2.2.2.2.2.2.2.2.2.2) (by have:=h.w;omega);have h3:=akk h;have h4:=pz h.v.1 (by have:=h.v.2;omega);have h5:=apE h;have h6:=pz h.o.1 (by have:=h.o.2;omega);have h7:=pz h.f.1 (by have:=h.f.2;omega);have:=h.v.2;have:=h.o.2;have:=h.f.2;have:=h.w;unfold nG;grind
theorem Dt(h:eQ l)(hl:l.length<=4194304)(hq:q.length+(cx l).length<=140737488355328):dA l q=some (q++cx l):=by unfold dA;rw[(mb h hl).1,f7,aT (by omega) (by omega)];rfl
theorem ad0(h:EncTh t)(hq:q.length+(t.1.flatMap lZ).length<=140737488355328):Itr.it (kR t) (0,q)=some (q++t.1.flatMap lZ):=by
 have hf:=FU h;have hn:=h.n;refine pw (λq i=>(i,q)) t.1 lZ (by omega) (by omega) (λi f q hi ha hq=>?_) (λq=>?_)
 ·obtain⟨f1,f2,f3⟩:=tI (h.f f (abY ha));have hfl:f.2.length<=1048576:=(h.f f (abY ha)).2.2;have e1:dA (([f.1]:List Int)++f.2) q=some (q++lZ f):=Dt (l:=f.1::f.2) f1 (by omega) hq;unfold kR;simp only[az (show(i:Int)<(t.1.length:Int)by omega),f9,cL ha,f7,Qz2,aT (m:=([f.1]:List Int).length) (k:=f.2.length) (b:=8) (by grind) (by omega),af,e1,aM (x:=(i:Int)+1) (by omega) (by omega)]
 ·unfold kR;grind
theorem ad7(h:EncTh t)(hq:q.length+(t.1.flatMap lZ).length<=140737488355328):Itr.it (hU t) (q,0)=some (q++t.1.flatMap lZ):=by
 have hf:=FU h;have hn:=h.n;refine pw (λq i=>(q,i)) t.1 lZ (by omega) (by omega) (λi f q hi ha hq=>?_) (λq=>?_)
 ·obtain⟨f1,f2,f3⟩:=tI (h.f f (abY ha));have hfl:f.2.length<=1048576:=(h.f f (abY ha)).2.2;have e1:de (([f.1]:List Int)++f.2)=some (lZ f):=(mb f1 (by omega)).2;unfold hU;simp only[az (show(i:Int)<(t.1.length:Int)by omega),f9,cL ha,f7,Qz2,aT (m:=([f.1]:List Int).length) (k:=f.2.length) (b:=8) (by grind) (by omega),af,e1,aT (m:=q.length) (k:=(lZ f).length) (b:=1) (by omega) (by omega),aM (x:=(i:Int)+1) (by omega) (by omega)]
 ·unfold hU;grind
theorem ag2(b:Bool):kr b=some (wt b)/\dv b=some (wt b):=by cases b<;>exact⟨rfl,rfl⟩
theorem M1(t:Th):(je t).length=(cx [t.2.2.1,wt t.2.2.2,(t.1.length:Int)]).length+((t.1.flatMap lZ).length+(cx t.2.1).length):=by unfold je;grind
theorem ZP(h:EncS s)(hq:q.length+(s.1.flatMap je).length<=140737488355328):Itr.it (kD s) (0,q)=some (q++s.1.flatMap je):=by
 have hn:=h.n;refine pw (λq i=>(i,q)) s.1 je (by omega) hq (λi t q hi ha hq=>?_) (λq=>?_)
 ·have ht:=h.t t (abY ha);have h3:=ht.s.2;have hl:=M1 t;have e1:=Dt (Ag ht) (q:=q) (by simp) (by omega);have e2:=ad0 ht (q:=q++cx [t.2.2.1,wt t.2.2.2,(t.1.length:Int)]) (by grind);have e3:=Dt ht.s.1 (q:=(q++cx [t.2.2.1,wt t.2.2.2,(t.1.length:Int)])++t.1.flatMap lZ) (by omega) (by grind);unfold kD;simp only[az (show(i:Int)<(s.1.length:Int)by omega),f9,cL ha,f7,Qz2,(ag2 _).1,e1,e2,e3,aM (x:=(i:Int)+1) (by omega) (by omega)];unfold je;grind
 ·unfold kD;grind
theorem YJ(h:EncS s)(hq:q.length+(s.1.flatMap je).length<=140737488355328):Itr.it (gT s) (q,0)=some (q++s.1.flatMap je):=by
 have hn:=h.n;refine pw (λq i=>(q,i)) s.1 je (by omega) hq (λi t q hi ha hq=>?_) (λq=>?_)
 ·have ht:=h.t t (abY ha);have h3:=ht.s.2;have hl:=M1 t;have e1:=(mb (Ag ht) (by simp)).2;have e2:=ad7 ht (q:=q++cx [t.2.2.1,wt t.2.2.2,(t.1.length:Int)]) (by grind);have e3:=(mb ht.s.1 (by omega)).2;unfold gT;simp only[az (show(i:Int)<(s.1.length:Int)by omega),f9,cL ha,f7,Qz2,(ag2 _).2,e1,e2,e3,af,aT (m:=q.length) (k:=(cx [t.2.2.1,wt t.2.2.2,(t.1.length:Int)]).length) (b:=1) (by omega) (by omega),
   aT (m:=((q++cx [t.2.2.1,wt t.2.2.2,(t.1.length:Int)])++t.1.flatMap lZ).length) (k:=(cx t.2.1).length) (b:=1) (by grind) (by omega),aM (x:=(i:Int)+1) (by omega) (by omega)]
  unfold je;grind
 ·unfold gT;grind
theorem afn(h:EncS s)(hq:q.length+(s.2.2.1.flatMap cx).length<=140737488355328):Itr.it (kI s) (0,q)=some (q++s.2.2.1.flatMap cx):=by
 have hn:=h.q.1;refine pw (λq i=>(i,q)) s.2.2.1 cx (by omega) hq (λi l q hi ha hq=>?_) (λq=>?_)
 ·have hl:=h.q.2 l (abY ha);unfold kI;simp only[az (show(i:Int)<(s.2.2.1.length:Int)by omega),f9,cL ha,f7,Qz2,Dt hl.1 (q:=q) (by omega) hq,aM (x:=(i:Int)+1) (by omega) (by omega)]
 ·unfold kI;grind
theorem aeF(h:EncS s)(hq:q.length+(s.2.2.1.flatMap cx).length<=140737488355328):Itr.it (gX s) (q,0)=some (q++s.2.2.1.flatMap cx):=by
 have hn:=h.q.1;refine pw (λq i=>(q,i)) s.2.2.1 cx (by omega) hq (λi l q hi ha hq=>?_) (λq=>?_)
 ·have hl:=h.q.2 l (abY ha);unfold gX;simp only[az (show(i:Int)<(s.2.2.1.length:Int)by omega),f9,cL ha,f7,Qz2,(mb hl.1 (by omega)).2,af,aT (m:=q.length) (k:=(cx l).length) (b:=1) (by omega) (by omega),aM (x:=(i:Int)+1) (by omega) (by omega)]
 ·unfold gX;grind
theorem acF(s:aF):(nG s).length=(cx (lH s)).length+((lA s.2.2.2.2.2.2.2.2.2.2.2).length+((s.1.flatMap je).length+((cx s.2.1).length+((s.2.2.1.flatMap cx).length+((cx s.2.2.2.1).length+(cx s.2.2.2.2.1).length))))):=by unfold nG;grind
theorem tq(h:EncS s):jg s=some (nG s)/\i8 s=some (nG s):=by
 have hs:=acF s;have hl:=CV h;have n10:(lH s).length<=4194304:=by show 10<=_;omega
 obtain⟨h1,h1'⟩:=mb (EN h) n10;obtain⟨h2,h2'⟩:=Tc (t:=s.2.2.2.2.2.2.2.2.2.2.2) (by have:=h.w;omega);have hv:=h.v;have ho:=h.o;have hf:=h.f;have L2:∀a b:List Int,(a++b).length=a.length+b.length:=λa b=>aaL;constructor
 ·have a1:=ZP h (q:=cx (lH s)++lA s.2.2.2.2.2.2.2.2.2.2.2) (by rw[L2];omega);have a2:=Dt hv.1 (q:=(cx (lH s)++lA s.2.2.2.2.2.2.2.2.2.2.2)++s.1.flatMap je) (by omega) (by grind);have a3:=afn h (q:=((cx (lH s)++lA s.2.2.2.2.2.2.2.2.2.2.2)++s.1.flatMap je)++cx s.2.1) (by grind);have a4:=Dt ho.1 (q:=(((cx (lH s)++lA s.2.2.2.2.2.2.2.2.2.2.2)++s.1.flatMap je)++cx s.2.1)++s.2.2.1.flatMap cx) (by omega) (by grind);have a5:=Dt hf.1 (q:=((((cx (lH s)++lA s.2.2.2.2.2.2.2.2.2.2.2)++s.1.flatMap je)++cx s.2.1)++s.2.2.1.flatMap cx)++cx s.2.2.2.1) (by omega) (by grind);unfold jg;dsimp only;refine(aba (λo:Option (List Int)=>o.bind _) h1).trans ?_;simp only[f7,Qz2,h2,af,aT (m:=(cx (lH s)).length) (k:=(lA s.2.2.2.2.2.2.2.2.2.2.2).length) (b:=1) (by omega) (by omega),f9,a1,a2,a3,a4,a5];unfold nG;grind
 ·have a1:=YJ h (q:=cx (lH s)++lA s.2.2.2.2.2.2.2.2.2.2.2) (by rw[L2];omega);have a2:=(mb hv.1 (by omega)).2;have a3:=aeF h (q:=((cx (lH s)++lA s.2.2.2.2.2.2.2.2.2.2.2)++s.1.flatMap je)++cx s.2.1) (by grind);have a4:=(mb ho.1 (by omega)).2;have a5:=(mb hf.1 (by omega)).2;unfold i8;dsimp only;refine(aba (λo:Option (List Int)=>o.bind _) h1').trans ?_;simp only[f7,Qz2,h2',af,aT (m:=(cx (lH s)).length) (k:=(lA s.2.2.2.2.2.2.2.2.2.2.2).length) (b:=1) (by omega) (by omega),f9,a1,a2,a3,a4,a5,
   aT (m:=((cx (lH s)++lA s.2.2.2.2.2.2.2.2.2.2.2)++s.1.flatMap je).length) (k:=(cx s.2.1).length) (b:=1) (by grind) (by omega),
   aT (m:=((((cx (lH s)++lA s.2.2.2.2.2.2.2.2.2.2.2)++s.1.flatMap je)++cx s.2.1)++s.2.2.1.flatMap cx).length) (k:=(cx s.2.2.2.1).length) (b:=1) (by grind) (by omega),
   aT (m:=(((((cx (lH s)++lA s.2.2.2.2.2.2.2.2.2.2.2)++s.1.flatMap je)++cx s.2.1)++s.2.2.1.flatMap cx)++cx s.2.2.2.1).length) (k:=(cx s.2.2.2.2.1).length) (b:=1) (by grind) (by omega)]
  unfold nG;grind
theorem acN{u:Th}(ht:EncTh t)(hu:EncTh u)(h:je t++a=je u++b):t=u/\a=b:=by
 unfold je at h;simp only[aaW]at h;obtain⟨e1,h⟩:=oR (Ag ht) (Ag hu) (by simp) (by simp) h;injection e1 with w1 e1;injection e1 with w2 e1;injection e1 with w3 _;have w2':t.2.2.2=u.2.2.2:=by unfold wt at w2;grind
 obtain⟨e2,h⟩:=zz (λf hf g hg a b h=>by obtain⟨f1,f2,_⟩:=tI (ht.f f hf);obtain⟨g1,g2,_⟩:=tI (hu.f g hg);obtain⟨e,h⟩:=oR f1 g1 (by omega) (by omega) h;grind) (by omega) h;obtain⟨e3,h⟩:=oR ht.s.1 hu.s.1 (by have:=ht.s.2;omega) (by have:=hu.s.2;omega) h;grind
theorem agv{t:aF}(hs:EncS s)(ht:EncS t)(h:nG s=nG t):s=t:=by
 unfold nG at h;obtain⟨e1,h⟩:=oR (EN hs) (EN ht) (by show 10<=_;omega) (by show 10<=_;omega) h;obtain⟨e2,h⟩:=ad1 (by have:=hs.w;omega) (by have:=ht.w;omega) h;unfold lH at e1;injection e1 with n1 e1;injection e1 with n2 e1;injection e1 with n3 e1;injection e1 with n4 e1;injection e1 with n5 e1;injection e1 with n6 e1;injection e1 with n7 e1;injection e1 with n8 e1;injection e1 with n9 e1;injection e1 with n10 _;obtain⟨e3,h⟩:=zz (λa ha b hb _ _ h=>acN (hs.t a ha) (ht.t b hb) h) (by omega) h;obtain⟨e4,h⟩:=oR hs.v.1 ht.v.1 (by have:=hs.v.2;omega) (by have:=ht.v.2;omega) h;obtain⟨e5,h⟩:=zz (λa ha b hb _ _ h=>oR (hs.q.2 a ha).1 (ht.q.2 b hb).1 (by have:=(hs.q.2 a ha).2;omega) (by have:=(ht.q.2 b hb).2;omega) h) (by omega) h;obtain⟨e6,h⟩:=oR hs.o.1 ht.o.1 (by have:=hs.o.2;omega) (by have:=ht.o.2;omega) h;have h':cx s.2.2.2.2.1++[]=cx t.2.2.2.2.1++[]:=by rw[h]
 obtain⟨e7,_⟩:=oR hs.f.1 ht.f.1 (by have:=hs.f.2;omega) (by have:=ht.f.2;omega) h';grind
theorem arj:Fed FD [] (FD,[],0):=⟨rfl,rfl,rfl,λx hx=>by cases hx⟩
theorem abv{r:List Int}:Itr.it (ip r) (0,List.replicate 16 0)=some ((List.range 16).map λj=>r.getD j 0):=by
 have ef:(List.range' 0 16).foldl (λw i=>cz 16 (0:Int) w i (r.getD i 0)) (List.replicate 16 0)=(List.range 16).map λj=>r.getD j 0:=by rfl
 have h:=(mP (f:=ip r) (λi x=>(i,x)) 0 16 (λw i=>cz 16 (0:Int) w i (r.getD i 0)) (λx=>x) (λ_ _=>True) (by omega) (by omega)
   (λi x _ hi _=>⟨by
    unfold ip;simp only[aaR,af,az (show(i:Int)<16 by omega),f9,az (show 0<=(i:Int)/\(i:Int)<32 by omega),az (show 0<=(i:Int)/\(i:Int)<16 by omega),aM (x:=(i:Int)+1) (by omega) (by omega)],trivial⟩)
   (λx _=>by rfl) (x:=List.replicate 16 0) trivial).1
 grind
theorem amE{t:List UInt8}(hl:t.length<=70368744177664)(tag:Int):∃v,B3 tag [t]=some v/\oN tag [t]=some v:=by
 obtain⟨b1,b2⟩:=EY hl;have hI:=ol (l:=t) (by omega);have hb9:=pD hI;have hbl:(lP t).length<=9+t.length:=by unfold lP;rw[aaL,B2];omega
 have hbb:wB (lP t):=ya (aei hI) (aji t);have hb0:wB [IntKind.u8.wrap tag]:=λx hx=>by rcases aaH.1 hx with rfl;exact w8 _
 obtain⟨S1,p1,F1⟩:=GJ arj (mS [IntKind.u8.wrap tag]) (by rw[Ek];simp);rw[ad9 hb0,acG]at F1;obtain⟨S2,p2,F2⟩:=GJ F1 (mS (lP t)) (by rw[Ek];grind);rw[ad9 hbb]at F2;obtain⟨s1,s2⟩:=afR (by grind) F2;have l1:Itr.it (qy [t]) (0,S1)=some S2:=by
  have h:=mP (f:=qy [t]) (λi x=>(i,x)) 0 1 (λ_ _=>S2) (λx=>x) (λi x=>x=if i=0 then S1 else S2) (by omega) (by omega)
   (λi x _ hi hI=>by
    have:i=0:=by omega
    subst this;rw[if_pos rfl]at hI;subst hI;refine⟨?_,rfl⟩;unfold qy;have hx:ac [t] ((0:Nat):Int)=some t:=rfl;simp only[hx,f7,Qz2,b1,az (show((0:Nat):Int)<(([t]:List (List UInt8)).length:Int)by simp),f9];refine(aba (λo:Option cp=>o.bind _) p2).trans ?_;rfl)
   (λx _=>by rfl) (x:=S1) rfl
  exact h.1
 have l2:Itr.it (lr [t]) ([IntKind.u8.wrap tag],0)=some ([IntKind.u8.wrap tag]++lP t):=by
  have e:[IntKind.u8.wrap tag]++[t].flatMap lP=[IntKind.u8.wrap tag]++lP t:=by simp
  rw[<-e];refine pw (λq i=>(q,i)) [t] lP (by simp) (by grind) (λi a q hi ha hq=>?_) (λq=>rfl);have:i=0:=by simpa using hi
  subst this;injection ha with ha;subst ha;have hx:ac [t] ((0:Nat):Int)=some t:=rfl;unfold lr;simp only[hx,f7,Qz2,b2,az (show((0:Nat):Int)<(([t]:List (List UInt8)).length:Int)by simp),f9,af,aT (m:=q.length) (k:=(lP t).length) (b:=1) (by omega) (by omega)];rfl
 refine⟨(List.range 16).map λj=>(acq ([IntKind.u8.wrap tag]++lP t)).getD j 0,?_,?_⟩
 ·unfold B3;rw[show yE=some (FD,[],0)from rfl,f7];refine(aba (λo:Option cp=>o.bind _) p1).trans ?_;rw[f7];refine(aba (λo:Option cp=>o.bind _) l1).trans ?_;rw[f7,s1,f7];rfl
 ·unfold oN pv oS;rw[l2,f7,f7,s2,f7,abv];rfl
theorem PM(h:EncS s):∃v,pO s=some v/\lE s=some v:=by
 obtain⟨h1,h2⟩:=tq h;have hl:=CV h;obtain⟨v,v1,v2⟩:=amE (t:=mS (nG s)) (by rw[Ek];omega) 6;refine⟨v,?_,?_⟩
 ·unfold pO;rw[h1,f7];exact(aba (λo:Option (List Int)=>o.bind _) v1).trans rfl
 ·unfold lE;rw[h2,f7];exact(aba (λo:Option (List Int)=>o.bind _) v2).trans rfl
theorem BZ{R:Type}[DecidableEq α](xs ys:List α)(hl:xs.length=ys.length)(hn:xs.length<4611686018427387904)(Z:R){f:Int->Option (Int⊕(Unit⊕R))}
  (h1:∀(i:Nat) (a b:α),i<xs.length->ae ((i:Int)+1)=(i:Int)+1->a∈xs->b∈ys->ac xs (i:Int)=some a->ac ys (i:Int)=some b->f (i:Int)=if a=b then some (.inl ((i:Int)+1))else some (.inr (.inr Z)))
  (h2:f (xs.length:Int)=some (.inr (.inl ()))):Itr.it f (0:Int)=some (if xs=ys then .inl ()else .inr Z):=by
 rcases gG (f:=f) xs.length (by omega) (λi=>xs[i]?=ys[i]?) (λ_=>Z)
  (λi hi _=>by
   have ha:xs[i]?=some xs[i]:=abB hi;have hb:ys[i]?=some (ys[i]'(by omega)):=abB (by omega);rw[h1 i _ _ hi (aM (by omega) (by omega)) (abY ha) (abY hb) (cL ha) (cL hb),ha,hb];grind)
  (λ_=>h2)with⟨hP,he⟩|⟨i,hi,_,hP,he⟩
 ·rw[he,if_pos];refine ac7 λi=>?_;grind
 grind
theorem rf[DecidableEq α](a b:List α)(hn:a.length<4611686018427387904){f:Int->Option (Int⊕(Unit⊕Bool))}
  (h1:∀(i:Nat) (x y:α),i<a.length->ae ((i:Int)+1)=(i:Int)+1->x∈a->y∈b->ac a (i:Int)=some x->ac b (i:Int)=some y->f (i:Int)=if x=y then some (.inl ((i:Int)+1))else some (.inr (.inr false)))
  (h2:f (a.length:Int)=some (.inr (.inl ()))):(bif(a.length:Int) != (b.length:Int)then some false else(Itr.it f 0).bind λz=>match z with|Sum.inl _=>some true|Sum.inr t=>some t)=some (decide (a=b)):=by
 by_cases hl:a.length=b.length
 ·rw[nf (by omega),BZ a b hl hn false h1 h2];grind
 ·rw[nt (by omega),bN (λh=>hl (by rw[h]))];rfl
theorem jQ(a b:List Int)(h:a.length<4611686018427387904):dE a b=some (decide (a=b))/\mM a b=some (decide (a=b))/\dM a b=some (decide (a=b)):=by
 have step:∀x y:Int,∀i:Int,(bif x != y then some (Sum.inr (Sum.inr false))else some (Sum.inl i))=if x=y then some (Sum.inl i:Int⊕(Unit⊕Bool))else some (.inr (.inr false)):=λx y i=>by grind
 refine⟨?_,?_,?_⟩
 ·exact rf (f:=gd a b) a b h (λi x y hi hw _ _ e1 e2=>by unfold gd;grind) (by unfold gd;grind)
 ·exact rf (f:=iW a b) a b h (λi x y hi hw _ _ e1 e2=>by unfold iW;grind) (by unfold iW;grind)
 ·exact rf (f:=gA a b) a b h (λi x y hi hw _ _ e1 e2=>by unfold gA;grind) (by unfold gA;grind)
theorem alr(x y:Fr)(h:x.2.length<=1048576):XR 81 x y=some (decide (x=y)):=by
 show pL x y=_;obtain⟨x1,x2⟩:=x;obtain⟨y1,y2⟩:=y;unfold pL;by_cases h1:x1=y1
 ·subst h1;simp only[acM,f9,(jQ x2 y2 (by grind)).2.2,f7,Qz2,aaE,true_and]
 ·simp only[bf h1,aax,f7,Qz2,aaE,h1,false_and,afj]
theorem arL(a b:List Fr)(hn:a.length<=128)(h:∀f∈a,f.2.length<=1048576):cr a b 81=some (decide (a=b)):=
 rf (f:=bD a b 81) a b (by omega) (λi x y hi hw hx _ e1 e2=>by unfold bD;simp only[az (show(i:Int)<(a.length:Int)by omega),f9,e1,e2,f7,Qz2,hw,alr x y (h x hx)];grind) (by unfold bD;grind)
theorem arc(x y:Th)(h:EncTh x):pV x y 81=some (decide (x=y)):=by
 have h1:=jQ x.2.1 y.2.1 (by have:=h.s.2;omega);have h2:=arL x.1 y.1 h.n λf hf=>(h.f f hf).2.2;obtain⟨x1,x2,x3,x4⟩:=x;obtain⟨y1,y2,y3,y4⟩:=y;dsimp only at h1 h2;unfold pV;dsimp only;by_cases a1:x3=y3;rotate_left
 ·simp[a1,bf a1]
 subst a1;by_cases a2:x4=y4;rotate_left
 ·simp[a2,show(x4==y4)=false from aeQ.2 a2]
 subst a2;by_cases a3:x2=y2;rotate_left
 ·simp_all
 simp_all
theorem aq1(a b:List Th)(hn:a.length<=128)(h:∀t∈a,EncTh t):cf a b 81=some (decide (a=b)):=
 rf (f:=bw a b 81) a b (by omega) (λi x y hi hw hx _ e1 e2=>by unfold bw;simp only[az (show(i:Int)<(a.length:Int)by omega),f9,e1,e2,f7,Qz2,hw,arc x y (h x hx)];grind) (by unfold bw;grind)
theorem arN(a b:List (List Int))(hn:a.length<=1048576)(h:∀t∈a,t.length<=1048577):gF a b=some (decide (a=b)):=
 rf (f:=dD a b) a b (by omega) (λi x y hi hw hx _ e1 e2=>by unfold dD;simp only[az (show(i:Int)<(a.length:Int)by omega),f9,e1,e2,f7,Qz2,hw,(jQ x y (by grind)).2.2];grind) (by unfold dD;grind)
noncomputable def M9(s t:aF):Bool:=@decide (s=t) (Classical.propDecidable _)
theorem Tk{t:aF}(h:s=t):M9 s t=true:=by unfold M9;grind
theorem pS{t:aF}(h:¬s=t):M9 s t=false:=by unfold M9;grind
theorem aqn(h:EncS s)(t:aF):rX s t=some (M9 s t):=by
 have h1:=aq1 s.1 t.1 h.n h.t;have h2:=arN s.2.2.1 t.2.2.1 h.q.1 λq hq=>(h.q.2 q hq).2;have h3:=(jQ s.2.1 t.2.1 (by have:=h.v.2;omega)).2.2;have h4:=(jQ s.2.2.2.1 t.2.2.2.1 (by have:=h.o.2;omega)).2.2;have h5:=(jQ s.2.2.2.2.1 t.2.2.2.2.1 (by have:=h.f.2;omega)).2.2;obtain⟨a1,a2,a3,a4,a5,a6,a7,⟨b1,b2,b3⟩,a8,a9,a10,a11⟩:=s;obtain⟨c1,c2,c3,c4,c5,c6,c7,⟨d1,d2,d3⟩,c8,c9,c10,c11⟩:=t;dsimp only at h1 h2 h3 h4 h5;unfold rX;dsimp only;rw[h1];by_cases e1:a1=c1;rotate_left
 ·rw[pS (by simp[e1]),bN e1];rfl
 rw[az e1];subst e1;simp only[f7,Qz2,f9];rw[h2];by_cases e3:a3=c3;rotate_left
 ·rw[pS (by simp[e3]),bN e3];rfl
 rw[az e3];subst e3;simp only[f7,Qz2,f9];rw[h3];by_cases e2:a2=c2;rotate_left
 ·rw[pS (by simp[e2]),bN e2];rfl
 rw[az e2];subst e2;simp only[f7,Qz2,f9];rw[h4];by_cases e4:a4=c4;rotate_left
 ·rw[pS (by simp[e4]),bN e4];rfl
 rw[az e4];subst e4;simp only[f7,Qz2,f9];rw[h5];by_cases e5:a5=c5;rotate_left
 ·rw[pS (by simp[e5]),bN e5];rfl
 rw[az e5];subst e5;simp only[f7,Qz2,f9];refine aba some ?_;by_cases e:(a6=c6/\a7=c7/\b1=d1/\b2=d2/\b3=d3/\a8=c8/\a9=c9/\a10=c10/\a11=c11)
 ·obtain⟨rfl,rfl,rfl,rfl,rfl,rfl,rfl,rfl,rfl⟩:=e;rw[Tk rfl];grind
 ·rw[pS (λh=>e (by grind)),Bool.eq_false_iff];grind
theorem aoj(h:EncS s)(t:aF):mI s t=some (M9 s t):=by
 have h3:=(jQ s.2.1 t.2.1 (by have:=h.v.2;omega)).1;have h4:=(jQ s.2.2.2.1 t.2.2.2.1 (by have:=h.o.2;omega)).1;have h5:=(jQ s.2.2.2.2.1 t.2.2.2.2.1 (by have:=h.f.2;omega)).1;unfold mI;dsimp only;generalize hC:(bif bif bif bif bif bif bif bif(s.1.length:Int) != (t.1.length:Int)then true else(s.2.2.1.length:Int) != (t.2.2.1.length:Int)then true else s.2.2.2.2.2.1 != t.2.2.2.2.2.1 then true else s.2.2.2.2.2.2.1 != t.2.2.2.2.2.2.1 then true else !(s.2.2.2.2.2.2.2.1.1==t.2.2.2.2.2.2.2.1.1&&(s.2.2.2.2.2.2.2.1.2.1==t.2.2.2.2.2.2.2.1.2.1&&(s.2.2.2.2.2.2.2.1.2.2==t.2.2.2.2.2.2.2.1.2.2&&true)))then true else s.2.2.2.2.2.2.2.2.1 != t.2.2.2.2.2.2.2.2.1 then true else s.2.2.2.2.2.2.2.2.2.1 != t.2.2.2.2.2.2.2.2.2.1 then true else s.2.2.2.2.2.2.2.2.2.2.1 != t.2.2.2.2.2.2.2.2.2.2.1 then true else !(s.2.2.2.2.2.2.2.2.2.2.2==t.2.2.2.2.2.2.2.2.2.2.2))=C;cases C;rotate_left
 ·rw[f9,pS];grind
 rw[aax];have hn:=h.n;have hq:=h.q.1;simp only[Bool.cond_true_left,acV]at hC;obtain⟨⟨⟨⟨⟨⟨⟨⟨n1,n2⟩,n3⟩,n4⟩,n5⟩,n6⟩,n7⟩,n8⟩,n9⟩:=hC;have n1:=aed.1 n1;have n2:=aed.1 n2;have n3:=aed.1 n3;have n4:=aed.1 n4;have n6:=aed.1 n6;have n7:=aed.1 n7;have n8:=aed.1 n8;have l1:Itr.it (iP s t) 0=some (if s.1=t.1 then .inl ()else .inr false):=BZ s.1 t.1 (by omega) (by omega) false (λi x y hi hw hx _ e1 e2=>by have hth:=h.t x hx;have hi1:=(jQ x.2.1 y.2.1 (by have:=hth.s.2;omega)).1;have hnx:=hth.n;have l2:x.1.length=y.1.length->Itr.it (fZ x y) 0=some (if x.1=y.1 then .inl ()else .inr (.inr (.inr false)):Unit⊕(Int⊕(Unit⊕Bool))):=λhl=>BZ (f:=fZ x y) x.1 y.1 hl (by omega) (.inr (.inr false)) (λi f g hi hw hf _ e1 e2=>by have hif:=(jQ f.2 g.2 (by have:=(hth.f f hf).2.2;omega)).1;unfold fZ;simp only[az (show(i:Int)<(x.1.length:Int)by omega),f9,e1,e2,f7,Qz2,hw];grind) (by unfold fZ;grind);unfold iP;simp only[az (show(i:Int)<(s.1.length:Int)by omega),f9,e1,e2,f7,Qz2,hw];grind) (by unfold iP;grind);have l3:Itr.it (iS s t) 0=some (if s.2.2.1=t.2.2.1 then .inl ()else .inr false):=BZ s.2.2.1 t.2.2.1 (by omega) (by omega) false (λi x y hi hw hx _ e1 e2=>by unfold iS;simp only[az (show(i:Int)<(s.2.2.1.length:Int)by omega),f9,e1,e2,f7,Qz2,hw,(jQ x y (by have:=(h.q.2 x hx).2;omega)).1];grind) (by unfold iS;grind);rw[l1,f7];obtain⟨a1,a2,a3,a4,a5,a6,a7,⟨b1,b2,b3⟩,a8,a9,a10,a11⟩:=s;obtain⟨c1,c2,c3,c4,c5,c6,c7,⟨d1,d2,d3⟩,c8,c9,c10,c11⟩:=t;dsimp only at *;simp at n5 n9;obtain⟨n5,n51,n52⟩:=n5;subst n3 n4 n5 n51 n52 n6 n7 n8 n9;by_cases e1:a1=c1;rotate_left
 ·rw[pS (by simp[e1]),if_neg e1]
 subst e1;rw[if_pos rfl];dsimp only;rw[l3,f7];by_cases e3:a3=c3;rotate_left
 ·rw[pS (by simp[e3]),if_neg e3]
 subst e3;rw[if_pos rfl];dsimp only;rw[h3];by_cases e2:a2=c2;rotate_left
 ·rw[pS (by simp[e2]),bN e2];rfl
 rw[az e2];subst e2;simp only[f7,Qz2,f9];rw[h4];by_cases e4:a4=c4;rotate_left
 ·rw[pS (by simp[e4]),bN e4];rfl
 rw[az e4];subst e4;simp only[f7,Qz2,f9];rw[h5];by_cases e5:a5=c5;rotate_left
 ·rw[pS (by simp[e5]),bN e5];rfl
 rw[az e5];subst e5;rw[Tk rfl];rfl
def zS(f:Fr):Prop:=aY f.1/\eQ f.2
structure InT(t:Th):Prop where
 f:∀f∈t.1,zS f
 s:eQ t.2.1
 w:aY t.2.2.1
structure InS(s:aF):Prop where
 t:∀t∈s.1,InT t
 v:eQ s.2.1
 q:∀q∈s.2.2.1,eQ q
 o:eQ s.2.2.2.1
 f:eQ s.2.2.2.2.1
 h:eQ [s.2.2.2.2.2.1,s.2.2.2.2.2.2.1,s.2.2.2.2.2.2.2.1.1,s.2.2.2.2.2.2.2.1.2.1,s.2.2.2.2.2.2.2.1.2.2,s.2.2.2.2.2.2.2.2.1,s.2.2.2.2.2.2.2.2.2.1,s.2.2.2.2.2.2.2.2.2.2.1]
 w:s.2.2.2.2.2.2.2.2.2.2.2.length<=1048576
structure InC(c:CC):Prop where
 i:∀x∈c.1,aY x.2.1
 p:eQ c.2.1
 v:∀v∈c.2.2.2.1,aY v.2
 n:∀l∈c.2.2.2.2.2.2.2,l.length<=1048576
theorem ao5(hc:bi c)(h:NumC c):InC c:=⟨h.i,λx hx=>by obtain⟨k,hk,rfl⟩:=ahT hx;obtain⟨_,_,q1,q2,_⟩:=hc.2.1.2.2.1 k hk;rw[abq,abB hk,afy]at q1 q2;have:=hc.1;exact⟨by omega,by omega⟩,h.v,h.n⟩
theorem hY:aY 0:=⟨by omega,by omega⟩
theorem pq(h:eQ l)(i:Nat):aY (l.getD i 0):=by
 rw[abq];cases he:l[i]? with
 |none=>exact hY
 |some x=>exact h x (abY he)
theorem mT(h:eQ l)(i:Nat)(hv:aY v):eQ (l.set i v):=λx hx=>(aci hx).elim (h x) (λe=>e▸hv)
theorem sL(h:eQ l)(i:Nat):eQ (l.take i):=λx hx=>h x (aeC hx)
theorem afM(h:eQ l)(i:Nat):eQ (l.drop i):=λx hx=>h x (agF hx)
theorem qI(h:eQ l)(hv:aY v):eQ (l++[v]):=λx hx=>(aa1.1 hx).elim (h x) (λe=>(aaH.1 e)▸hv)
theorem yh(n:Nat)(hv:aY v):eQ (List.replicate n v):=λx hx=>aij hx▸hv
theorem fI(h0 : -10<=x)(h1:x<=4294967296):aY x:=⟨by omega,by omega⟩
theorem Da(h:∀f∈fs,zS f)(hf:zS f):∀g∈fs++[f],zS g:=λg hg=>(aa1.1 hg).elim (h g) (λe=>(aaH.1 e)▸hf)
theorem kv(hs:InS s)(ht:InT t):InS (bA s i t):=
 ⟨λu hu=>(aci hu).elim (hs.t u) (λe=>e▸ht),hs.v,hs.q,hs.o,hs.f,hs.h,hs.w⟩
theorem Cj(h:InS s):aY s.2.2.2.2.2.1/\aY s.2.2.2.2.2.2.1/\aY s.2.2.2.2.2.2.2.1.1/\aY s.2.2.2.2.2.2.2.1.2.1/\aY s.2.2.2.2.2.2.2.1.2.2/\aY s.2.2.2.2.2.2.2.2.1/\aY s.2.2.2.2.2.2.2.2.2.1/\aY s.2.2.2.2.2.2.2.2.2.2.1:=by have hh:=h.h;exact⟨hh _ (by simp),hh _ (by simp),hh _ (by simp),hh _ (by simp),hh _ (by simp),hh _ (by simp),hh _ (by simp),hh _ (by simp)⟩
theorem uD{a b c d e f g h:Int}(h1:aY a)(h2:aY b)(h3:aY c)(h4:aY d)(h5:aY e)(h6:aY f)(h7:aY g)(h8:aY h):eQ [a,b,c,d,e,f,g,h]:=
 io h1 (io h2 (io h3 (io h4 (io h5 (io h6 (io h7 (io h8 ot)))))))
theorem LK(hs:InS s){k:Int}{w:List UInt8}(ho:aY o)(hk:aY k)(hw:w.length<=1048576):InS (sU s o k w):=by obtain⟨a,b,c,d,e,f,g,h⟩:=Cj hs;exact⟨hs.t,hs.v,hs.q,hs.o,hs.f,uD a b c d e f ho hk,hw⟩
theorem ad8(hs:InS s)(x:Int):InS (NC s x):=by obtain⟨a,b,c,d,e,f,g,h⟩:=Cj hs;exact⟨hs.t,hs.v,hs.q,hs.o,hs.f,uD a b c (jC _) e f g h,hs.w⟩
theorem ald(hs:InS s):InS (yR s):=by obtain⟨a,b,c,d,e,f,g,h⟩:=Cj hs;exact⟨hs.t,hs.v,hs.q,hs.o,hs.f,uD a b c d (jC _) f g h,hs.w⟩
theorem ac6(hs:InS s){w:Int}(hw:aY w):InS (Ng s w):=by obtain⟨a,b,c,d,e,f,g,h⟩:=Cj hs;exact⟨hs.t,hs.v,hs.q,hs.o,hs.f,uD hw b c d e f g h,hs.w⟩
theorem akf(hs:InS s):InS (lB s):=by obtain⟨a,b,c,d,e,f,g,h⟩:=Cj hs;exact⟨hs.t,hs.v,hs.q,hs.o,hs.f,uD (jC _) (jC _) (jC _) d e f g h,hs.w⟩
theorem FG(hs:InS s){p:Int}(hp:aY p):InS (cX s p):=by obtain⟨a,b,c,d,e,f,g,h⟩:=Cj hs;exact⟨hs.t,hs.v,hs.q,hs.o,hs.f,uD a b c d e hp g h,hs.w⟩
theorem apf(hs:InS s)(ho:aY o):InS (Yd s o):=by obtain⟨a,b,c,d,e,f,g,h⟩:=Cj hs;exact⟨hs.t,hs.v,hs.q,hs.o,hs.f,uD a b c d e f ho h,hs.w⟩
theorem ZH:InS dJ:=⟨λt ht=>(by cases ht),λx hx=>(by cases hx),λx hx=>(by cases hx),λx hx=>(by cases hx),λx hx=>(by cases hx),uD hY hY hY hY hY hY hY hY,by show 0<=_;omega⟩
theorem JJ(hs:InS s)(i:Nat):InT (bK s i):=by
 unfold bK;rw[abq];cases he:s.1[i]? with
 |none=>exact⟨λf hf=>(by cases hf),ot,hY⟩
 |some x=>exact hs.t x (abY he)
theorem Yk(h:InT t):zS (uj t):=by
 unfold uj;rcases akw t.1 with hl|⟨fs,f,hl⟩
 ·rw[hl];exact⟨hY,ot⟩
 ·rw[akz]at hl;rw[hl,List.getLastD_concat];exact h.f f (by rw[hl];simp)
theorem RS(h:InT t):∀f∈t.1.dropLast,zS f:=λf hf=>h.f f (List.dropLast_subset _ hf)
theorem arT(h:InC c)(pc:Nat):aY (eF c pc).2.1:=by
 unfold eF;rw[abq];cases he:c.1[pc]? with
 |none=>exact hY
 |some x=>exact h.i x (abY he)
theorem ag9(h:InC c)(k:Nat):(c.2.2.2.2.2.2.2.getD k []).length<=1048576:=by
 rw[abq];cases he:c.2.2.2.2.2.2.2[k]? with
 |none=>simp
 |some x=>exact h.n x (abY he)
theorem xS(h:InC c)(hs:InS s)(i:Nat)(ho:aY o):InS (gc c s i o):=by
 unfold gc;dsimp only;split
 ·exact LK hs ho (jC _) (ag9 h _)
 ·exact LK hs ho (Cj hs).2.2.2.2.2.2.2 hs.w
theorem ti{p:Prop}[Decidable p]{a b:Int}(ha:aY a)(hb:aY b):aY (if p then a else b):=by grind
theorem LJ:aY 1:=⟨by omega,by omega⟩
theorem apw(op a b:Int):aY (OP op a b):=by unfold OP;exact ti (jC _) (ti (jC _) (ti (jC _) (ti (ti LJ hY) (ti (ti LJ hY) (ti LJ hY)))))
theorem oi{w:Int}{b:Bool}(h1:∀f∈fs,zS f)(h2:zS f)(h3:eQ st)(h4:aY w):InT (fs++[f],st,w,b):=⟨Da h1 h2,h3,h4⟩
theorem apn(hC:InC c)(hk:aY kind)(hs:InS s){w:Int}{x:ce}(h1:∀f∈fs,zS f)(h2:zS f)(h3:eQ st)(h4:aY w)(hx:aY x.2.1) :
  ∀s',nv c kind s i fs f st w x=some s'->InS s':=by
 have pu:∀v,aY v->∀s',(if 16<=st.length then none else some (bA s i (fs++[(ae (f.1+1),f.2)],st++[v],w,false)))=some s'->InS s':=λv hv s' h=>by
  split at h
  ·cases h
  ·injection h with h;subst h;exact kv hs (oi h1 ⟨jC _,h2.2⟩ (qI h3 hv) h4)
 have po:∀g:Int->aF,(∀v,aY v->InS (g v))->∀s',(if st.length=0 then none else some (g (st.getD (st.length-1) 0)))=some s'->InS s':=λg hg s' h=>by
  split at h
  ·cases h
  ·injection h with h;subst h;exact hg _ (pq h3 _)
 intro s' h;unfold nv at h;by_cases e0:x.1=0
 ·grind
 rw[if_neg e0]at h;by_cases e1:x.1=1
 ·rw[if_pos e1]at h;exact pu _ (pq h2.2 _) _ h
 rw[if_neg e1]at h;by_cases e3:x.1=3
 ·grind
 rw[if_neg e3]at h;by_cases e2:x.1=2
 ·rw[if_pos e2]at h;refine po (λv=>bA s i (fs++[(ae (f.1+1),f.2.set x.2.1.toNat v)],st.take (st.length-1),w,false)) (λv hv=>?_) _ h;exact kv hs (oi (f:=(ae (f.1+1),f.2.set x.2.1.toNat v)) h1 ⟨jC _,mT h2.2 _ hv⟩ (sL h3 _) h4)
 rw[if_neg e2]at h;by_cases e10:x.1=10
 ·rw[if_pos e10]at h;injection h with h;subst h;exact kv hs (oi h1 ⟨hx,h2.2⟩ h3 h4)
 rw[if_neg e10]at h;by_cases e11:x.1=11
 ·rw[if_pos e11]at h;exact po (λv=>bA s i (fs++[(if v=0 then x.2.1 else ae (f.1+1),f.2)],st.take (st.length-1),w,false)) (λv hv=>kv hs (oi h1 ⟨ti hx (jC _),h2.2⟩ (sL h3 _) h4)) _ h
 rw[if_neg e11]at h;by_cases e12:x.1=12
 ·rw[if_pos e12]at h;by_cases h8:8<=fs.length+1
  ·grind
  ·rw[if_neg h8]at h;injection h with h;subst h;exact kv hs (oi (Da h1 ⟨jC _,h2.2⟩) ⟨pq hC.p _,yh _ hY⟩ h3 h4)
 rw[if_neg e12]at h;by_cases e13:x.1=13
 ·rw[if_pos e13]at h;injection h with h;subst h;exact kv hs ⟨h1,h3,h4⟩
 rw[if_neg e13]at h;by_cases e14:x.1=14
 ·rw[if_pos e14]at h;refine po (λv=>if v=0 then sU (bA s i (fs++[(ae (f.1+1),f.2)],st.take (st.length-1),w,false)) 1 x.2.1 (c.2.2.2.2.2.2.2.getD x.2.2.toNat [])else bA s i (fs++[(ae (f.1+1),f.2)],st.take (st.length-1),w,false)) (λv hv=>?_) _ h;have hp:=kv (i:=i) hs (oi (b:=false) h1 (f:=(ae (f.1+1),f.2)) ⟨jC _,h2.2⟩ (sL h3 (st.length-1)) h4);split
  ·exact LK hp LJ hx (ag9 hC _)
  ·exact hp
 rw[if_neg e14]at h;by_cases e15:x.1=15
 ·rw[if_pos e15]at h;injection h with h;subst h;exact ad8 (kv hs (oi (f:=(ae (f.1+1),f.2)) h1 ⟨jC _,h2.2⟩ h3 h4)) _
 rw[if_neg e15]at h;by_cases hl:st.length<2
 ·grind
 ·rw[if_neg hl]at h;injection h with h;subst h;exact kv hs (oi h1 ⟨jC _,h2.2⟩ (qI (sL h3 _) (apw _ _ _)) h4)
theorem YF(hC:InC c)(hk:aY kind)  : ∀(m:Nat) {s:aF},InS s->InS (db c kind i m s).2:=by
 intro m;induction m with
 |zero=>
  intro s hs;unfold db;split
  ·exact hs
  split
  ·exact hs
  exact xS hC hs _ (fI (by omega) (by omega))
 |succ m ih=>
  intro s hs;unfold db;split
  ·exact hs
  split
  ·exact hs
  have ht:=JJ hs i;dsimp only;split
  ·exact xS hC hs _ (fI (by omega) (by omega))
  ·next s' he=>exact ih (apn hC hk hs (RS ht) (Yk ht) ht.s ht.w (arT hC _) s' he)
theorem aay(hs:InS s)(i:Nat):InS (oh c s i).1:=by
 have ht:=JJ hs i;unfold oh;dsimp only;split
 ·exact kv hs ⟨ht.f,ht.s,jC _⟩
 split
 ·show InS (if _ then _ else _);split
  ·exact ald hs
  ·exact hs
 grind
theorem OX(hC:InC c)(hk:aY kind)(hs:InS s):InS (bR c kind i s).1:=by
 have h:=YF hC hk (i:=i) 64 hs;unfold bR;split
 ·exact aay h i
 ·exact h
theorem apo(hC:InC c)(hk:aY kind):∀(l:List Int) {s:aF},InS s->InS (cu c kind l s).1:=by
 intro l;induction l with
 |nil=>intro s hs;exact hs
 |cons z l ih=>intro s hs;exact ih (OX hC hk hs)
theorem ale(hs:InS s):∀n,aY (lL c s n):=by
 intro n;induction n with
 |zero=>exact fI (x:=-1) (by omega) (by omega)
 |succ n ih=>exact ti (JJ hs n).w ih
theorem He(hC:InC c)(hs:InS s):InS (dZ c s):=by
 unfold dZ;split
 ·exact hs
 split
 ·exact xS hC hs _ (fI (by omega) (by omega))
 split
 ·exact hs
 split
 ·exact ac6 hs (ale hs _)
 ·exact xS hC hs _ (fI (by omega) (by omega))
theorem RH{a b:List Th}{r:yS}(h:InS (a,r))(hb:∀t∈b,InT t):InS (b,r):=⟨hb,h.v,h.q,h.o,h.f,h.h,h.w⟩
theorem GI{q:List (List Int)}(h:∀l∈q,eQ l)(i:Nat):eQ (q.getD i []):=by
 rw[abq];cases he:q[i]? with
 |none=>exact ot
 |some x=>exact h x (abY he)
theorem GA{q:List (List Int)}(h:∀l∈q,eQ l)(i:Nat)(hl:eQ l):∀m∈q.set i l,eQ m:=λm hm=>(aci hm).elim (h m) (λe=>e▸hl)
theorem apy(hi:i<=1048576){x:ce}{k:Int}(hk:aY k){r:yS}(h2:eQ f.2)(h3:eQ st)(hr:InS ([],r)) :
  eQ (fF i f st x k r).2.2.1/\eQ (fF i f st x k r).2.2.2.1/\InS ([],(fF i f st x k r).2.2.2.2):=by
 have h4:=pq h3 (st.length-1);have h5:=sL h3 (st.length-1);obtain⟨a,b,c,d,e,g,o,z⟩:=Cj hr;unfold fF;dsimp only;by_cases e16:x.1=16
 ·rw[if_pos e16];split
  ·exact⟨h2,h3,hr⟩
  ·exact⟨h2,qI h3 (pq hr.v _),hr⟩
 rw[if_neg e16];by_cases e17:x.1=17
 ·rw[if_pos e17];split
  ·exact⟨h2,h3,hr⟩
  ·exact⟨h2,h5,⟨hr.t,mT hr.v _ h4,hr.q,hr.o,hr.f,hr.h,hr.w⟩⟩
 rw[if_neg e17];by_cases e20:x.1=20
 ·rw[if_pos e20];exact⟨mT h2 _ (pq (GI hr.q _) _),h3,⟨hr.t,hr.v,GA hr.q _ (afM (GI hr.q _) _),hr.o,hr.f,hr.h,hr.w⟩⟩
 rw[if_neg e20];by_cases e21:x.1=21
 ·rw[if_pos e21];exact⟨h2,h3,⟨hr.t,hr.v,hr.q,mT hr.o _ (fI (by omega) (by omega)),hr.f,hr.h,hr.w⟩⟩
 rw[if_neg e21];by_cases e22:x.1=22
 ·rw[if_pos e22];exact⟨h2,h3,⟨hr.t,hr.v,hr.q,mT hr.o _ (fI (by omega) (by omega)),hr.f,hr.h,hr.w⟩⟩
 rw[if_neg e22];by_cases e23:x.1=23
 ·rw[if_pos e23];exact⟨mT h2 _ hk,h3,hr⟩
 rw[if_neg e23];by_cases e24:x.1=24
 ·rw[if_pos e24];exact⟨mT h2 _ (jC _),h3,⟨hr.t,hr.v,hr.q,hr.o,hr.f,uD (jC _) b c d e g o z,hr.w⟩⟩
 rw[if_neg e24];by_cases e25:x.1=25
 ·rw[if_pos e25];exact⟨h2,h3,hr⟩
 rw[if_neg e25];by_cases e26:x.1=26
 ·rw[if_pos e26];split
  ·exact⟨h2,h3,hr⟩
  split
  ·exact⟨h2,h5,⟨hr.t,hr.v,hr.q,hr.o,mT hr.f _ h4,hr.h,hr.w⟩⟩
  ·exact⟨h2,h5,hr⟩
 rw[if_neg e26];exact⟨mT h2 _ (pq hr.f _),h3,hr⟩
theorem aow{l:List Th}(h:∀t∈l,InT t)(ht:InT t):∀u∈l.set i t,InT u:=λu hu=>(aci hu).elim (h u) (λe=>e▸ht)
theorem ak2(hC:InC c)(hs:InS s)(hi:i<=1048576){w:Int}{x:ce}{j:Int}(h1:∀f∈fs,zS f)(h2:zS f)(h3:eQ st)(h4:aY w)(hj:aY j):InS (gE c s i fs f st w x j).2.2.2:=by
 unfold gE;split
 ·unfold uE;split
  ·exact hs
  ·have hn:InS (oK s i fs f st w):=kv hs (oi (f:=(ae (f.1+1),f.2)) h1 ⟨jC _,h2.2⟩ h3 h4);refine⟨λt ht=>?_,hn.v,hn.q,hn.o,hn.f,hn.h,hn.w⟩;rcases aa1.1 ht with ht|ht
   ·exact hn.t t ht
   ·rcases aaH.1 ht with rfl;exact⟨λg hg=>by rcases aaH.1 hg with rfl;exact⟨pq hC.p _,yh _ hY⟩,ot,hY⟩
 split
 ·unfold mJ;split
  ·exact hs
  have hn:InS (bA s i (fs++[(ae (f.1+1),f.2)],st.take (st.length-1),w,false)):=kv hs (oi (f:=(ae (f.1+1),f.2)) h1 ⟨jC _,h2.2⟩ (sL h3 _) h4);dsimp only;split
  ·exact⟨hn.t,hn.v,GA hn.q _ (qI (GI hs.q _) (pq h3 _)),hn.o,hn.f,hn.h,hn.w⟩
  ·have ht:=JJ hs ((gt c s x.2.1).getD j.toNat 0).toNat;exact kv hn ⟨Da (RS ht) ⟨jC _,mT (Yk ht).2 _ (pq h3 _)⟩,ht.s,ht.w⟩
 split
 ·have hE:=apy (i:=i) hi (f:=f) (st:=st) (x:=x) (k:=j) hj h2.2 h3 (RH (b:=[]) hs (λt ht=>by cases ht));have hS:InS (sS s i fs f st w x j):=RH hE.2.2 (aow hs.t (oi (f:=(f.1,(fF i f st x j s.2).2.2.1)) h1 ⟨h2.1,hE.1⟩ hE.2.1 h4));unfold pn;dsimp only;split
  ·exact kv hS (oi (f:=(ae (f.1+1),(fF i f st x j s.2).2.2.1)) h1 ⟨jC _,hE.1⟩ hE.2.1 h4)
  ·exact hS
 ·unfold ul;have hn:InS (bA s i ([],[],0,true)):=kv hs ⟨λf hf=>(by cases hf),ot,hY⟩;dsimp only;split
  ·exact apf hn hY
  ·exact hn
theorem aqi(hC:InC c)(he:aY e.1)(hs:InS s){q:xr}(hq:InS q.2.2.2):InS (ud c e s i q).1:=by
 unfold ud;split
 ·exact He hC (apo hC he _ (akf hq))
 ·exact xS hC (FG hs (fI (by omega) (by omega))) _ (fI (by omega) (by omega))
theorem Dn(c:CC)(s:aF)(i:Nat)(o:Int):(gc c s i o).1=s.1:=by unfold gc;dsimp only;split<;>rfl
theorem DZ(c:CC)(s:aF):(dZ c s).1=s.1:=by
 unfold dZ;split
 ·rfl
 split
 ·exact Dn ..
 split
 ·rfl
 split
 ·rfl
 ·exact Dn ..
theorem ad4(hc:bi c)(e:ce){j:Int}{w:Int}{x:ce}(h:Moves c e s j i fs f st w x):(ud c e s i (gE c (cX s (-1)) i fs f st w x j)).1.1.length<=s.1.length+1:=by
 have hd:=yT hc (nu h.gs (-1)) (show(cX s (-1)).1.length<=70 by have:=h.n;show s.1.length<=70;omega) h.can h.run h.hq;unfold ud;split
 ·next hg=>
  have hl:=hd.left hg;obtain⟨g1,g2,g3,g4⟩:=yI hc e.1 (l:=(gE c (cX s (-1)) i fs f st w x j).1) (s:=lB (gE c (cX s (-1)) i fs f st w x j).2.2.2) ⟨wG hl.g,λz hz=>by obtain⟨n,rfl,fs',f',st',w',h1,h2⟩:=hl.run z hz;exact⟨n,rfl,fs',f',st',w',h1,h2⟩,hl.nd⟩;dsimp only;rw[DZ,g2];exact hl.n
 ·dsimp only;rw[Dn];show s.1.length<=_;omega
theorem arM(hc:bi c)(hC:InC c)(he:pT e)(hs:InS s)(h:Idle c s)(ho:bO s<0){j:Int}(hj:0<=j/\j<((gQ c e s).2.2.2.length:Int))(hj64:aY j){t:aF}{v:List bW}(hd:eG c e s j=some (t,v,0)):InS t/\t.1.length<=s.1.length+1:=by
 obtain⟨r2,hg⟩:=y7 hc he h ho;by_cases hp:s.2.2.2.2.2.2.2.2.1<0/\1<(eP c s).length
 ·have hP:gQ c e s=(0,-1,-1,List.replicate (eP c s).length 1):=by unfold gQ;rw[if_pos hp]
  rw[hP]at hj;dsimp only at hj;rw[adk]at hj;have hx:ac (eP c s) j=some ((eP c s).getD j.toNat 0):=bH 0 hj.1 hj.2;have hm:(eP c s).getD j.toNat 0∈eP c s:=eE 0 (by omega);have hle:aY ((eP c s).getD j.toNat 0):=by unfold eP qX at hm;obtain⟨n,hn,hn2⟩:=aaG.1 hm;have:=aev.1 (ac0.1 hn).1;have:=h.g.ok.n;rw[show eP c s=((List.range s.1.length).filter (AC c s)).map Int.ofNat from rfl,<-hn2];exact⟨by show _<=(n:Int);omega,by show(n:Int)<=_;omega⟩
  have hdo:eG c e s j=some (cX s ((eP c s).getD j.toNat 0),[],0):=by unfold eG;rw[r2];simp only[f7,Qz2,adj,aax,uX s h.g.sm,uZ hc e [] hg,hP,adk];rw[zr,bN (by omega),az (show(-1:Int)<0 by omega)];simp only[aax,f9,BC hc h.g.ok,f7,Qz2,hx];rfl
  rw[hdo]at hd;injection hd with hd;injection hd with hd _;subst hd;exact⟨FG hs hle,by show s.1.length<=_;omega⟩
 ·obtain⟨i,fs,f,st,w,x,hm⟩:=LW hc e h.g r2 hg hp hj;obtain⟨d2,_,_⟩:=Gp hc e hm;rw[d2]at hd;injection hd with hd;injection hd with hd _;subst hd;refine⟨?_,ad4 hc e hm⟩;have ht:=hs.t _ (abY hm.t);have hi:=fc hm.t;have hn:=hm.n;exact aqi hC (fI (by have:=he.1;omega) (by have:=he.2.1;omega)) hs (ak2 hC (FG hs (fI (by omega) (by omega))) (by omega) (λg hg=>ht.f g (aa1.2 (.inl hg))) (ht.f f (by simp)) ht.s ht.w hj64)
theorem aem(hc:bi c)(hC:InC c)(he:pT e):InS (pF c e [])/\(pF c e []).1.length<=1:=by
 obtain⟨r1,r2,r3⟩:=Aw hc [];obtain⟨_,_,st3⟩:=Dx hc e.1 (Ju hc []) r1 r3;have h0:InS (hZ c []):=⟨λt ht=>by rcases aaH.1 ht with rfl;exact⟨λg hg=>by rcases aaH.1 hg with rfl;exact⟨pq hC.p _,yh _ hY⟩,ot,hY⟩,
  λx hx=>by obtain⟨v,hv,rfl⟩:=aaG.1 hx;exact hC.v v hv,
  λq hq=>by rw[aij hq];exact ot,yh _ (fI (by omega) (by omega)),
  λx hx=>by obtain⟨v,hv,rfl⟩:=aaG.1 hx;exact hY,
  uD hY (fI (x:=64) (by omega) (by omega)) hY hY hY (fI (x:=-1) (by omega) (by omega)) (fI (x:=-1) (by omega) (by omega)) hY,by show 0<=_;omega⟩
 refine⟨He hC (OX hC (fI (by have:=he.1;omega) (by have:=he.2.1;omega)) h0),?_⟩;unfold pF;rw[DZ,st3];show 1<=1;omega
structure SizeS(d:Nat)(s:aF):Prop where
 n:s.1.length<=100+d
 t:∀t∈s.1,t.1.length<=100/\t.2.1.length<=1048576/\∀f∈t.1,f.2.length<=1000+d
 v:s.2.1.length<=100000+d
 q:s.2.2.1.length<=100000/\∀q∈s.2.2.1,q.length<=1000+d
 o:s.2.2.2.1.length<=100000
 f:s.2.2.2.2.1.length<=100000
theorem aoJ(hd:d<=5)(h:SizeS d s)(hI:InS s):EncS s:=
 ⟨by have:=h.n;omega,λt ht=>⟨by have:=(h.t t ht).1;omega,λf hf=>⟨(hI.t t ht |>.f f hf).1,(hI.t t ht |>.f f hf).2,by have:=(h.t t ht).2.2 f hf;omega⟩,⟨(hI.t t ht).s,by have:=(h.t t ht).2.1;omega⟩,(hI.t t ht).w⟩,⟨hI.v,by have:=h.v;omega⟩,
  ⟨by have:=h.q.1;omega,λq hq=>⟨hI.q q hq,by have:=h.q.2 q hq;omega⟩⟩,⟨hI.o,by have:=h.o;omega⟩,⟨hI.f,by have:=h.f;omega⟩,hI.h,hI.w⟩
theorem HN(hd:d<=5)(h:SizeS d s):dN s:=
 ⟨by have:=h.n;omega,λt ht=>⟨by have:=(h.t t ht).1;omega,by have:=(h.t t ht).2.1;omega,λf hf=>by have:=(h.t t ht).2.2 f hf;omega⟩,by have:=h.v;omega,by have:=h.q.1;omega,λq hq=>by have:=h.q.2 q hq;omega,by have:=h.o;omega,by have:=h.f;omega⟩
theorem KZ(d:Nat):SizeS d dJ:=⟨by show 0<=_;omega,λt ht=>(by cases ht),by show 0<=_;omega,⟨by show 0<=_;omega,λq hq=>(by cases hq)⟩,by show 0<=_;omega,by show 0<=_;omega⟩
theorem al3(hc:bi c)(ht:B4 c)(h:StOk c s)(hsm:dN s)(hn:s.1.length<=100):SizeS 0 s:=by
 obtain⟨t1,t2,t3,t4,t5,t6,t7⟩:=ht;obtain⟨f1,f2,f3,f4⟩:=h.fit;refine⟨by omega,λt ht=>?_,by omega,⟨by omega,λq hq=>?_⟩,by omega,by omega⟩
 ·rcases h.th t ht with⟨h1,h2⟩|⟨_,fs,f,h1,hr⟩
  ·exact⟨by rw[h2];simp,(hsm.2.1 t ht).2.1,λf hf=>by rw[h2]at hf;cases hf⟩
  ·have:=hr.n;have:=hr.m;refine⟨by rw[h1,aaL,acg];omega,by omega,λg hg=>?_⟩;have:=yj hc (hr.fr g (by rw[<-h1];exact hg));omega
 ·obtain⟨j,hj,rfl⟩:=ahT hq;have h1:=h.cap j (by rw[<-f2];exact hj);rw[abq,abB hj,afy]at h1;have:=(hc.2.1.2.2.2 j (by rw[<-f2];exact hj)).2;omega
theorem Q3(ht:B4 c)(hN:NumC c)(e:ce)(hw:∀x∈w,aY x){n:Int}(hn:0<=n/\n<40):∃s,kz c e [] w n=some s/\SizeS 0 s/\InS s:=by
 have hs:=UF ht;unfold kz;obtain⟨s,f,w2,w3,w4,w5⟩:=TT c hs e [] (by simp);rw[w2];simp only[f7,Qz2];have h0:(bO s<0->bi c/\pT e/\Idle c s)/\InS s/\s.1.length<=66/\(s=dJ\/(bi c/\StOk c s)):=by
  by_cases hf:f=0
  ·obtain⟨a1,a2,a3,a4⟩:=w4 hf;have h:=aem a1 (ao5 a1 hN) a2;rw[<-a3]at h;exact⟨λ_=>⟨a1,a2,by rw[a3];exact Wd a1 e []⟩,h.1,by omega,.inr ⟨a1,a4⟩⟩
  ·have:=w5 hf;refine⟨λho=>?_,by rw[this];exact ZH,by rw[this];show 0<=66;omega,.inl this⟩;rw[this]at ho;exact absurd ho (by show¬(0:Int)<0;omega)
 obtain⟨r,h1,t,h2,h3,h4⟩:=gz (f:=iZ c e w n) (λy=>(n-y.1).toNat) (λy=>∃(i:Int) (t:aF),y=C0 i t/\0<=i/\i<=n/\dN t/\(bO t<0->bi c/\pT e/\Idle c t)/\InS t/\t.1.length<=66/\(t=dJ\/(bi c/\StOk c t))) (λr=>∃t,r=.inl (C0 0 t).2/\SizeS 0 t/\InS t)
  (λy hy=>by
   obtain⟨i,t,rfl,hi,hi2,hsm,hid,hin,hlen,hst⟩:=hy;by_cases hcond:i<n/\bO t<0
   ·right;obtain⟨a1,a2,a3⟩:=hid hcond.2;have hnx:=akr a1 a2 a3 hcond.2;have hpos:=aad a1 e (y7 a1 a2 a3 hcond.2).2;obtain⟨_,_,n2,n3⟩:=ZR a1 e a3.g.ok a3.g.sm ⟨a3.g.lo,a3.g.hi⟩;rw[hnx]at n2;injection n2 with n2;injection n2 with n2 _;rw[<-n2]at n3;obtain⟨j,j1,j2,j3⟩:=at_ok hw i (n:=((gQ c e t).2.2.2.length:Int)) (by omega) (by omega);obtain⟨u,v,hS⟩:=aq9 a1 a2 a3 hcond.2 ⟨j2,j3⟩;obtain⟨i1,i2⟩:=arM a1 (ao5 a1 hN) a2 hin a3 hcond.2 ⟨j2,j3⟩ ⟨by omega,by omega⟩ hS.r;have hle:=(a3.v hcond.2).1.n;have hle2:=(a3.v hcond.2).2.1;refine⟨C0 (i+1) u,?_,⟨i+1,u,rfl,by omega,by omega,hS.i.g.sm,λ_=>⟨a1,a2,hS.i⟩,i1,by omega,.inr ⟨a1,hS.i.g.ok⟩⟩,by show(n-(i+1)).toNat<(n-i).toNat;omega⟩;have hr:=hS.r;have hot:t.2.2.2.2.2.2.2.2.2.1<0:=hcond.2;obtain⟨b1,b2,b3,b4,b5,b6,b7,⟨d1,d2,d3⟩,b9⟩:=t;unfold iZ C0;dsimp only at *;rw[az hcond.1,az hot];simp only[f9,hnx,f7,Qz2,adj,aax,j1,hr,aM (x:=i+1) (by omega) (by omega)]
   ·left;have hsz:SizeS 0 t:=by
     rcases hst with rfl|⟨b1,b2⟩
     ·exact KZ 0
     ·exact al3 b1 ht b2 hsm (by omega)
    refine⟨.inl (C0 0 t).2,?_,t,rfl,hsz,hin⟩;have h2:i<n->¬t.2.2.2.2.2.2.2.2.2.1<0:=λh1 h=>hcond ⟨h1,h⟩;obtain⟨b1,b2,b3,b4,b5,b6,b7,⟨d1,d2,d3⟩,b9⟩:=t;unfold iZ C0;dsimp only at *;by_cases h1:i<n
    ·rw[az h1,bN (h2 h1)];rfl
    ·rw[bN h1];rfl)
  (s:=C0 0 s) ⟨0,s,rfl,by omega,hn.1,w3,h0⟩ (by show(n-0).toNat<_;omega)
 subst h2;refine⟨t,?_,h3,h4⟩;refine(aba (λo:Option (py⊕aF)=>o.bind _) h1).trans ?_;rfl
def unf(y:py):aF:=(y.1,y.2.1,y.2.2.1,y.2.2.2.1,y.2.2.2.2.1,y.2.2.2.2.2.1,y.2.2.2.2.2.2.1,(y.2.2.2.2.2.2.2.1,y.2.2.2.2.2.2.2.2.1,y.2.2.2.2.2.2.2.2.2.1),y.2.2.2.2.2.2.2.2.2.2)
def V0(d:Nat)(y:py):Prop:=SizeS (d+1) (unf y)/\InS (unf y)
theorem alS(h:SizeS d s):SizeS (d+1) s:=
 ⟨by have:=h.n;omega,λt ht=>⟨(h.t t ht).1,(h.t t ht).2.1,λf hf=>by have:=(h.t t ht).2.2 f hf;omega⟩,by have:=h.v;omega,⟨h.q.1,λq hq=>by have:=h.q.2 q hq;omega⟩,h.o,h.f⟩
theorem afT(h:SizeS d s)(ht:t.1.length<=100/\t.2.1.length<=1048576/\∀f∈t.1,f.2.length<=1000+d):SizeS d (bA s i t):=
 ⟨by unfold bA;rw[acQ];exact h.n,λu hu=>(aci hu).elim (h.t u) (λe=>e▸ht),h.v,h.q,h.o,h.f⟩
theorem E5{l:List Fr}{P:Fr->Prop}(h:∀f∈l,P f)(hf:P f):∀g∈l.set i f,P g:=λg hg=>(aci hg).elim (h g) (λe=>e▸hf)
theorem aq8(hd:d<=4)(hz:SizeS d s)(hs:InS s){a b r2:Int}(ha:aY a)(hv:aY v)(hb:aY b)(h0:0<=r2)(h1:r2<s.1.length\/r2=0):∃y,mw a s v b r2=some y/\V0 d y:=by
 obtain⟨r7,hr,q0,q1⟩:=mf ha (n:=16) (by omega) (by omega);obtain⟨a1,a2,a3,a4,a5,a6,a7,a8⟩:=Cj hs;have hn:=hz.n;have hzu:=alS hz;have same:V0 d (s.1,s.2.1,s.2.2.1,s.2.2.2.1,s.2.2.2.2.1,s.2.2.2.2.2.1,s.2.2.2.2.2.2.1,s.2.2.2.2.2.2.2.1.1,s.2.2.2.2.2.2.2.1.2.1,s.2.2.2.2.2.2.2.1.2.2,s.2.2.2.2.2.2.2.2):=⟨hzu,hs⟩
 have thr:∀{t:Th},(t.1.length<=100/\t.2.1.length<=1048576/\∀f∈t.1,f.2.length<=1000+(d+1))->InT t->V0 d (s.1.set r2.toNat t,s.2.1,s.2.2.1,s.2.2.2.1,s.2.2.2.2.1,s.2.2.2.2.2.1,s.2.2.2.2.2.2.1,s.2.2.2.2.2.2.2.1.1,s.2.2.2.2.2.2.2.1.2.1,s.2.2.2.2.2.2.2.1.2.2,s.2.2.2.2.2.2.2.2):=λh1 h2=>⟨afT hzu h1,kv hs h2⟩
 have ht:r2<s.1.length->∃t,ac s.1 r2=some t/\t∈s.1:=λh=>⟨_,bH ([],[],0,false) h0 h,eE _ (by omega)⟩
 unfold mw;dsimp only;rw[hr];simp only[f7,Qz2];by_cases c0:r7=0
 ·rw[bt c0,f9];exact⟨_,rfl,⟨hzu.n,hzu.t,hzu.v,hzu.q,hzu.o,hzu.f⟩,⟨hs.t,hs.v,hs.q,hs.o,hs.f,uD hv a2 a3 a4 a5 a6 a7 a8,hs.w⟩⟩
 rw[bf c0,aax];by_cases c1:r7=1
 ·rw[bt c1,f9];exact⟨_,rfl,⟨hzu.n,hzu.t,hzu.v,hzu.q,hzu.o,hzu.f⟩,⟨hs.t,hs.v,hs.q,hs.o,hs.f,uD a1 hv a3 a4 a5 a6 a7 a8,hs.w⟩⟩
 rw[bf c1,aax];by_cases c2:r7=2
 ·rw[bt c2,f9];exact⟨_,rfl,⟨hzu.n,hzu.t,hzu.v,hzu.q,hzu.o,hzu.f⟩,⟨hs.t,hs.v,hs.q,hs.o,hs.f,uD a1 a2 a3 a4 a5 hv a7 a8,hs.w⟩⟩
 rw[bf c2,aax];by_cases c3:r7=3
 ·rw[bt c3,f9];exact⟨_,rfl,⟨hzu.n,hzu.t,hzu.v,hzu.q,hzu.o,hzu.f⟩,⟨hs.t,hs.v,hs.q,hs.o,hs.f,uD a1 a2 a3 a4 a5 a6 hv a8,hs.w⟩⟩
 rw[bf c3,aax];by_cases c4:r7=4
 ·rw[bt c4,f9];exact⟨_,rfl,⟨hzu.n,hzu.t,hzu.v,hzu.q,hzu.o,hzu.f⟩,⟨hs.t,hs.v,hs.q,hs.o,hs.f,uD a1 a2 a3 a4 a5 a6 a7 hv,hs.w⟩⟩
 rw[bf c4,aax];by_cases c5:r7=5
 ·rw[bt c5,f9];exact⟨_,rfl,⟨hzu.n,hzu.t,hzu.v,hzu.q,hzu.o,hzu.f⟩,⟨hs.t,hs.v,hs.q,hs.o,hs.f,hs.h,by show eL.length<=1048576;decide⟩⟩
 rw[bf c5,aax];by_cases c6:r7=6
 ·rw[bt c6,f9,dz (show(!((2:Int)==0))=true from rfl)];exact⟨_,rfl,⟨hzu.n,hzu.t,hzu.v,hzu.q,hzu.o,hzu.f⟩,⟨hs.t,hs.v,hs.q,hs.o,hs.f,uD a1 a2 hv hb (jC _) a6 a7 a8,hs.w⟩⟩
 rw[bf c6,aax];by_cases c7:r7=7
 ·have hl:=hz.v;rw[bt c7,f9,dz (aT (by grind) (by omega))];exact⟨_,rfl,⟨hzu.n,hzu.t,by show(s.2.1++[1]).length<=_;grind,hzu.q,hzu.o,hzu.f⟩,⟨hs.t,qI hs.v LJ,hs.q,hs.o,hs.f,hs.h,hs.w⟩⟩
 rw[bf c7,aax];by_cases c8:r7=8
 ·rw[bt c8,f9];by_cases hq:(0:Int)<s.2.2.1.length
  ·rw[az hq,f9];have hm:s.2.2.1.getD 0 []∈s.2.2.1:=eE [] (by omega);have hl:=hz.q.2 _ hm;have hx:ac s.2.2.1 (0:Int)=some (s.2.2.1.getD 0 []):=bH [] (by omega) hq;rw[hx];simp only[f7,Qz2];have h00:((0+(0:Int))==(0:Int))=true:=rfl;rw[dz (az (by omega)),dz h00,dz (aT (by grind) (by omega)),dz (az (by omega)),dz h00];refine⟨_,rfl,⟨hzu.n,hzu.t,hzu.v,⟨by show(s.2.2.1.set _ _).length<=_;rw[acQ];exact hzu.q.1,λq hq=>?_⟩,hzu.o,hzu.f⟩,⟨hs.t,hs.v,GA hs.q _ (qI (hs.q _ hm) hb),hs.o,hs.f,hs.h,hs.w⟩⟩;rcases aci hq with hq|rfl
   ·exact hzu.q.2 q hq
   grind
  grind
 rw[bf c8,aax];by_cases c9:r7=9
 ·rw[bt c9,f9];by_cases hq:(0:Int)<s.2.2.2.1.length
  ·rw[az hq,f9,bH 0 (afY _) hq];exact⟨_,rfl,⟨hzu.n,hzu.t,hzu.v,hzu.q,by show(s.2.2.2.1.set _ _).length<=_;rw[acQ];exact hzu.o,hzu.f⟩,⟨hs.t,hs.v,hs.q,mT hs.o _ hv,hs.f,hs.h,hs.w⟩⟩
  grind
 rw[bf c9,aax];by_cases c10:r7=10
 ·rw[bt c10,f9,dz (show(!((2:Int)==0))=true from rfl),dz (aT (by grind) (by omega))];refine⟨_,rfl,⟨by show(s.1++[_]).length<=_;grind,λt ht=>?_,hzu.v,hzu.q,hzu.o,hzu.f⟩,⟨λt ht=>?_,hs.v,hs.q,hs.o,hs.f,hs.h,hs.w⟩⟩
  ·rcases aa1.1 ht with ht|ht
   ·exact hzu.t t ht
   grind
  ·rcases aa1.1 ht with ht|ht
   ·exact hs.t t ht
   ·rcases aaH.1 ht with rfl;exact⟨λf hf=>(by cases hf),ot,hY⟩
 rw[bf c10,aax];by_cases c11:r7=11
 ·rw[bt c11,f9,dz (az (by omega))];exact⟨_,rfl,⟨by show(s.1.take _).length<=_;grind,λt ht=>hzu.t t (aeC ht),hzu.v,hzu.q,hzu.o,hzu.f⟩,⟨λt ht=>hs.t t (aeC ht),hs.v,hs.q,hs.o,hs.f,hs.h,hs.w⟩⟩
 rw[bf c11,aax];by_cases hlt:r2<s.1.length;rotate_left
 ·grind
 obtain⟨t,hx,hm⟩:=ht hlt;obtain⟨g1,g2,g3⟩:=hzu.t t hm;have hg3:=(hz.t t hm).2.2;obtain⟨i1,i2,i3⟩:=hs.t t hm;rw[az hlt];simp only[hx,f9,f7,Qz2];by_cases c12:r7=12
 ·rw[bt c12,f9];exact⟨_,rfl,thr ⟨g1,g2,g3⟩ ⟨i1,i2,hv⟩⟩
 rw[bf c12,aax];have hrr:decide (0<=r2/\r2<(s.1.length:Int)-0)=true:=az ⟨h0,by omega⟩;have hr0:((0+r2)==r2)=true:=bt (by omega);have ew:0<t.1.length->ae ((t.1.length:Int)-1)=((t.1.length-1:Nat):Int):=λh=>by rw[aM (by omega) (by omega)];omega
 have hlast:0<t.1.length->ac t.1 ((t.1.length-1:Nat):Int)=some (t.1.getD (t.1.length-1) (0,[]))/\t.1.getD (t.1.length-1) (0,[])∈t.1:=λh=>⟨aO _ (by omega),eE _ (by omega)⟩
 by_cases c13:r7=13
 ·rw[bt c13,f9];by_cases hl:(0:Int)<t.1.length
  ·obtain⟨l1,l2⟩:=hlast (by omega);rw[az hl,f9];simp only[dz hrr,dz hr0,ew (by omega),l1,f7,Qz2];exact⟨_,rfl,thr ⟨by grind,g2,E5 g3 (by grind)⟩ ⟨E5 i1 ⟨hv,(i1 _ l2).2⟩,i2,i3⟩⟩
  grind
 rw[bf c13,aax];by_cases c14:r7=14
 ·rw[bt c14,f9];by_cases hl:(0:Int)<t.1.length
  ·obtain⟨l1,l2⟩:=hlast (by omega);have hfl:=hg3 _ l2;rw[az hl,f9];simp only[dz hrr,dz hr0,ew (by omega),l1,f7,Qz2];rw[dz (az (by omega)),dz (bt (by omega)),dz (aT (by grind) (by omega)),dz (az (by omega)),dz (bt (by omega))];refine⟨_,rfl,thr ⟨by grind,g2,E5 g3 ?_⟩ ⟨E5 i1 ⟨(i1 _ l2).1,qI (i1 _ l2).2 hb⟩,i2,i3⟩⟩;grind
  grind
 rw[bf c14,aax];obtain⟨r,e1,e2,e3⟩:=mf hb (n:=18) (by omega) (by omega);simp only[e1,f7,Qz2];rw[dz (az ⟨e2,by omega,by unfold maxLen;omega⟩),dz hrr,dz hr0];exact⟨_,rfl,thr ⟨g1,by grind,g3⟩ ⟨i1,yh _ hY,i3⟩⟩
theorem L4(hd:d<=4)(hz:SizeS d s)(hs:InS s){a b:Int}(ha:aY a)(hb:aY b):∃t,ja s a b=some t/\SizeS (d+1) t/\InS t:=by
 have hn:=hz.n;unfold ja;rw[uX s (HN (by omega) hz),f7];have hm:∃m:Nat,(if(1:Int)>(s.1.length:Int)then(1:Int)else(s.1.length:Int))=(m:Int)/\0<m/\(m=s.1.length\/(m=1/\s.1.length=0)):=by grind
 obtain⟨m,m1,m2,m3⟩:=hm;obtain⟨r2,e1,e2,e3⟩:=mf hb (n:=(m:Int)) (by omega) (by omega);obtain⟨r3,f1,f2,f3⟩:=mf (jC (Int.tdiv b 3)) (n:=12) (by omega) (by omega);have hl:∀v∈([-1,0,1,2,5,8,16,64,65,1048576,1048577,b]:List Int),aY v:=λv hv=>by simp only[aaK,afu,akQ]at hv;rcases hv with rfl|rfl|rfl|rfl|rfl|rfl|rfl|rfl|rfl|rfl|rfl|rfl;all_goals first|exact hb|exact fI (by omega) (by omega)
 have hx:ac ([-1,0,1,2,5,8,16,64,65,1048576,1048577,b]:List Int) r3=some (([-1,0,1,2,5,8,16,64,65,1048576,1048577,b]:List Int).getD r3.toNat 0):=bH 0 f2 f3;have hv:aY (([-1,0,1,2,5,8,16,64,65,1048576,1048577,b]:List Int).getD r3.toNat 0):=hl _ (eE 0 (by simp_all));obtain⟨y,y1,y2,y3⟩:=aq8 hd hz hs ha hv hb e2 (by omega) (r2:=r2);rw[m1,e1];simp only[f7,Qz2,dz (show(!((3:Int)==0))=true from rfl),f1,hx];refine⟨unf y,?_,y2,y3⟩;exact(aba (λo:Option py=>o.bind _) y1).trans rfl
end Go.Proofs.YtfhhiajfciblbaaGreatDoor
