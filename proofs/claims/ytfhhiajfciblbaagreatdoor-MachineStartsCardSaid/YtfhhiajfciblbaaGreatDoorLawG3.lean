/-
  Plain laws: a thread runs silently and stands: the reference. No program is walked here.
-/
import Derived.Test.YtfhhiajfciblbaaGreatDoorLawM7
namespace Go.Proofs.YtfhhiajfciblbaaGreatDoor
open Go.Sm
set_option linter.unusedSimpArgs false
set_option linter.unusedVariables false
set_option maxRecDepth 4000
def jN (n:Int) (r:aG):zQ:=(n,r.1.1,r.1.2.1,r.1.2.2.1,r.1.2.2.2.1,r.1.2.2.2.2.1,r.1.2.2.2.2.2.1,r.1.2.2.2.2.2.2.1,r.1.2.2.2.2.2.2.2,r.2.1.1,r.2.1.2.1,r.2.1.2.2,r.2.2.1.1,r.2.2.1.2.1,r.2.2.1.2.2.1,r.2.2.1.2.2.2.1,r.2.2.1.2.2.2.2.1,r.2.2.1.2.2.2.2.2.1,r.2.2.1.2.2.2.2.2.2.1,r.2.2.1.2.2.2.2.2.2.2.1.1,r.2.2.1.2.2.2.2.2.2.2.1.2.1,r.2.2.1.2.2.2.2.2.2.2.1.2.2,r.2.2.1.2.2.2.2.2.2.2.2.1,r.2.2.1.2.2.2.2.2.2.2.2.2.1,r.2.2.1.2.2.2.2.2.2.2.2.2.2.1,r.2.2.1.2.2.2.2.2.2.2.2.2.2.2,r.2.2.2)
theorem Z8 {c:CC} (hc:df c) {e:dy} {s:bw} {a:List me} {i:Nat} {fs:List Fr} {f:Fr} {st:List Int} {w:Int} {x:dy} {k pc:Nat} (h:AtP c s i fs f st w x k pc) (hf:Fit1 c s) (ha:a.length≤1048576) :
  eW (c,e,s,a) x (i:Int)=some (c,e,(tT c s i).1,a++(tT c s i).2):=by
 have hF:=hc.2.2.1 k pc h.pc2 h.pr
 rw [h.x] at hF
 have hx:mB c (cP s i)=x:=by
  rw [qS h.t]; unfold mB; rw [l7,h.pc1]; exact h.x
 unfold tT
 dsimp only
 rw [hx]
 obtain ⟨op,u,b⟩:=x
 obtain ⟨_,_,o1,o2,o3,o4,o5,o6,o7,o8,o9,o10,o11,o12⟩:=hF
 dsimp only at o1 o2 o3 o4 o5 o6 o7 o8 o9 o10 o11 o12
 have eap : ∀ v:me,aH a.length ([v]:List me).length 24=true:=fun v=>be (by simp only [List.length_singleton]; omega) (by omega)
 unfold eW
 dsimp only
 by_cases h25:op=25
 ·subst h25
  simp only [Int.reduceBEq,cond_true,cond_false,if_true,cv h.t,Option.bind_some,eap,ah,qS h.t,Int.toNat_natCast]
  rfl
 rw [bf h25,if_neg h25]
 by_cases h21:op=21
 ·subst h21
  obtain ⟨q1,q2⟩:=o8 (.inl rfl)
  have eo:ac s.2.2.2.1 u=some (s.2.2.2.1.getD u.toNat 0):=bu 0 q1 (by have:=hf.own; omega)
  have hp1:iv (c,e,s,a) (21,u,b)=some (jN 0 (c,e,(if 0≤s.2.2.2.1.getD u.toNat 0 then NZ s else s),a)).2:=by
   unfold iv
   simp only [eo,Option.bind_some]
   by_cases hw:0≤s.2.2.2.1.getD u.toNat 0
   ·rw [aE hw,if_pos hw]
    rfl
   ·rw [aQ hw,if_neg hw]
    rfl
  simp only [Int.reduceBEq,cond_true,cond_false,if_true,hp1,Option.bind_some]
  generalize (if 0≤s.2.2.2.1.getD u.toNat 0 then NZ s else s)=s2
  simp only [jN,eap,ah,cond_true]
 rw [bf h21,if_neg h21]
 by_cases h20:op=20
 ·subst h20
  obtain ⟨q1,q2⟩:=o7 (.inr rfl)
  have eo:ac c.2.2.2.2.1 u=some (c.2.2.2.2.1.getD u.toNat ([],0)):=bu _ q1 (by omega)
  simp only [Int.reduceBEq,cond_true,cond_false,if_true,eo,Option.bind_some]
  by_cases hw:(c.2.2.2.2.1.getD u.toNat ([],0)).2=0
  ·rw [show ((c.2.2.2.2.1.getD u.toNat ([],0)).2==0)=true by simp only [beq_iff_eq]; exact hw,if_pos hw]
   simp only [cond_true,eap,ah]
  ·rw [show ((c.2.2.2.2.1.getD u.toNat ([],0)).2==0)=false by simp only [beq_eq_false_iff_ne]; exact hw,if_neg hw]
   simp only [cond_false,List.append_nil]
 rw [bf h20,if_neg h20]
 simp only [cond_false,List.append_nil]
theorem Pm (i:Int) (n:Int) (r:aG):fN i (jN n r) =
  bif decide (r.2.2.1.2.2.2.2.2.2.2.2.2.1<(0:Int)) then
   (co r i).bind fun r2=>(ac r.2.2.1.1 i).bind fun _=>(ac r.2.2.1.1 i).bind fun v4=>(gt r2 (v4.1.length:Int)).bind fun r5=>
   bif r5 then (eW r r2 i).bind fun r6=>some (Sum.inr r6)
   else bif n==(64:Int) then (bJ r 3 i).bind fun r7=>some (Sum.inr r7)
   else (ip r.2.2.1).bind fun r8=>(eL r r2 i).bind fun r9=>
    bif !r9.1 then (bJ (r9.2.1,r9.2.2.1,r8,r9.2.2.2.2) 4 i).bind fun r10=>some (Sum.inr r10)
    else some (Sum.inl (jN (ad (n+1)) r9.2))
  else some (Sum.inr r):=rfl
theorem FT {c:CC} (hc:df c) {f:Fr} (h:um c f):f.2.length≤512:=by
 obtain ⟨k,pc,_,_,h3,h4⟩:=h
 obtain ⟨_,_,_,_,q5,q6⟩:=hc.2.1.2.2.1 k h3.1
 omega
theorem PS {c:CC} (hc:df c) {s s' : bw} (hs:d9 s) {i:Nat} {fs:List Fr} {f:Fr} {st:List Int} {w:Int} (h:s'.1=s.1.set i (fs++[f],st,w,false)) (hr:Run1 c fs f st) (k:q9 s s'):d9 s' := by
 obtain ⟨h1,h2,h3,h4,h5,h6,h7⟩:=hs
 obtain ⟨a1,a2,a3,a4,a5,a6,a7,a8,a9⟩:=k
 unfold d9
 rw [h,a1,a2,a3,a4]
 refine ⟨by simpa using h1,fun t ht=>?_,h3,h4,h5,h6,h7⟩
 rcases List.mem_or_eq_of_mem_set ht with ht | rfl
 ·exact h2 t ht
 ·have:=hr.n
  have:=hr.m
  exact ⟨by simp only [List.length_append,List.length_singleton]; omega,by dsimp only; omega,fun g hg=>by have:=FT hc (hr.fr g hg); omega⟩
theorem Z2 {c:CC} (hc:df c) (e:dy) (a:List me) (ha:a.length≤1048576) {s0:bw} {i:Nat} (hs:rR c s0 i) (hf:Fit1 c s0) (hsm:d9 s0) :
  fT (c,e,s0,a) (i:Int)=some (c,e,(jF c e.1 i s0).1,a++(jF c e.1 i s0).2):=by
 obtain ⟨r,h1,h2⟩:=fk (f:=fN (i:Int)) (fun y=>65 - y.1.toNat) (fun y=>∃ (n:Nat) (s:bw),y=jN (n:Int) (c,e,s,a)∧n≤64∧rR c s i∧Fit1 c s∧d9 s∧ea c e.1 i (64 - n) s=ea c e.1 i 64 s0)
  (fun r=>r=(c,e,(jF c e.1 i s0).1,a++(jF c e.1 i s0).2))
  (fun y hy=>by
   obtain ⟨n,s,rfl,hn,⟨fs,f,st,w,ht,hr⟩,hf,hsm,hq⟩:=hy
   obtain ⟨k,pc,hA⟩:=lU ht hr
   unfold jF
   rw [← hq,sd c e.1 (64 - n) hA]
   have eat:co (c,e,s,a) (i:Int)=some (ey c f.1.toNat):=aa5 hA
   have eov:=fun o=>PF hc (e:=e) (a:=a) hA o
   have esi:=fun hop=>adS hc (e:=e) (a:=a) hA hop
   have est:=Z8 hc (e:=e) hA hf ha
   have esd:=RE (ey c f.1.toNat) (fs.length+1) (by omega)
   have ela:((fs++[f]).length:Int)=((fs.length+1:Nat):Int):=by simp
   have et:=cv ht
   have ecp:=YA s hsm
   rw [Pm]
   by_cases ho:0≤jz s
   ·left
    rw [if_pos ho]
    refine ⟨_,?_,rfl⟩
    have : ¬ (s.2.2.2.2.2.2.2.2.2.1<(0:Int)):=by unfold jz at ho; omega
    simp only [this,decide_false,cond_false,true_and]
    rw [if_neg (by omega)]
    simp only [List.append_nil]
   rw [if_neg ho]
   have hlt:s.2.2.2.2.2.2.2.2.2.1<(0:Int):=by unfold jz at ho; omega
   simp only [hlt,decide_true,cond_true,eat,et,Option.bind_some,ela,esd]
   by_cases hst:fZ (ey c f.1.toNat) (fs.length+1)=true
   ·left
    refine ⟨_,?_,rfl⟩
    simp only [hst,cond_true,if_true,true_and,est,Option.bind_some]
    rw [if_pos (by omega)]
   have hst' : fZ (ey c f.1.toNat) (fs.length+1)=false:=by simpa using hst
   obtain ⟨hop,hb⟩:=sB hc hA hst'
   have hov : ∀ o:Int,0≤o→¬ jz (jM c s i o)<0:=by
    intro o h0
    rw [oX hc hA]
    unfold jz rB
    dsimp only
    omega
   rw [hst']
   rcases Nat.lt_or_eq_of_le hn with hn | hn
   rotate_left
   ·left
    subst hn
    refine ⟨_,?_,rfl⟩
    simp only [cond_false,Bool.false_eq_true,if_false,show (((64:Nat):Int)==64)=true from rfl,cond_true,eov,Option.bind_some,Nat.sub_self,false_and,List.append_nil]
   obtain ⟨m,hm⟩ : ∃ m,64 - n=m+1:=⟨63 - n,by omega⟩
   rw [hm]
   have h64:((n:Int)==64)=false:=by simp only [beq_eq_false_iff_ne]; omega
   simp only [cond_false,Bool.false_eq_true,if_false,h64,ecp,Option.bind_some,esi hop]
   cases hsil:iJ c e.1 s i fs f st w (ey c f.1.toNat) with
   | none=>
    left
    refine ⟨_,?_,rfl⟩
    simp only [Bool.not_false,cond_true,eov,Option.bind_some,Bool.false_eq_true,false_and,if_false,List.append_nil]
   | some s' =>
    right
    obtain ⟨fs1,f1,st1,g1,g2,g3⟩:=EX hc hA hr hop hb hsil
    refine ⟨jN ((n+1:Nat):Int) (c,e,s',a),?_,⟨n+1,s',rfl,by omega,BW hc hA hr hst' hsil,HK hf g3,PS hc hsm g1 g2 g3,?_⟩,by show 65 - ((n+1:Nat):Int).toNat<65 - (n:Int).toNat; omega⟩
    ·simp only [Bool.not_true,cond_false]
     rw [aS (n:=64) (by omega) hn]
     rfl
    ·rw [show 64 - (n+1)=m by omega]) (s:=jN 0 (c,e,s0,a)) ⟨0,s0,rfl,by omega,hs,hf,hsm,rfl⟩ (by show 65 - (0:Int).toNat<_; omega)
 unfold fT
 dsimp only
 refine Eq.trans h1 ?_
 rw [h2]
open Go.Sm
set_option linter.unusedSimpArgs false
set_option linter.unusedVariables false
set_option maxRecDepth 4000
def ae4 (c:CC) (t:Th):Prop:=(t.2.2.2=true∧t.1=[])∨(t.2.2.2=false∧∃ fs f,t.1=fs++[f]∧Run1 c fs f t.2.1)
structure StOk (c:CC) (s:bw):Prop where
 n:s.1.length≤1048576
 th : ∀ t∈s.1,ae4 c t
 fit:Fit1 c s
 cap : ∀ j,j<c.2.2.2.2.1.length→((s.2.2.1.getD j []).length:Int)≤(c.2.2.2.2.1.getD j ([],0)).2
def pY (n:Nat) (p:Nat→Bool):List Int:=((List.range n).filter p).map Int.ofNat
theorem Qa (n:Nat) (p:Nat→Bool):pY (n+1) p=if p n then pY n p++[(n:Int)] else pY n p:=by
 unfold pY
 rw [List.range_succ,List.filter_append,List.map_append]
 cases h:p n <;> simp [h]
theorem RS (n:Nat) (p:Nat→Bool):(pY n p).length≤n:=by
 unfold pY
 rw [List.length_map]
 exact Nat.le_trans (List.length_filter_le _ _) (by simp)
theorem zm {f:List Int×Int→Option ((List Int×Int)⊕List Int)} (n:Nat) (p:Nat→Bool) (hn:n≤1048576)
  (hstep : ∀ k,k<n→∀ cq:List Int,aH cq.length 1 8=true→f (cq,(k:Int))=some (.inl (if p k then cq++[(k:Int)] else cq,(k:Int)+1)))
  (hend : ∀ cq,f (cq,(n:Int))=some (.inr cq)):Itr.it f ([],(0:Int))=some (pY n p):=
 dW (f:=f) (fun y=>n - y.2.toNat) (fun _=>pY n p) (fun y=>∃ k:Nat,y=(pY k p,(k:Int))∧k≤n)
  (fun y hy=>by
   obtain ⟨k,rfl,hk⟩:=hy
   rcases Nat.lt_or_ge k n with hlt | hge
   ·right
    refine ⟨(pY (k+1) p,((k+1:Nat):Int)),?_,⟨k+1,rfl,by omega⟩,by dsimp only; omega,rfl⟩
    have:=RS k p
    rw [hstep k hlt _ (be (by omega) (by omega)),Qa]
    rfl
   ·left
    have:k=n:=by omega
    subst this
    exact hend _) (s:=([],0)) ⟨0,rfl,by omega⟩ (by show n - (0:Int).toNat<_; omega)
def lF (c:CC) (t:Th):dy:=if t.2.2.2=true then (29,0,0) else mB c t
def GE (c:CC) (s:bw) (ch:Int) (k:Nat):Bool:=(lF c (cP s k)).1==20&&(lF c (cP s k)).2.1==ch
def EU (c:CC) (s:bw) (ch:Int):List Int:=pY s.1.length (GE c s ch)
def Aa (c:CC) (s:bw) (k:Nat):Bool:=
 let t:=cP s k
 let x:=lF c t
 if t.2.2.2=true then false
 else if x.1=21 then decide (s.2.2.2.1.getD x.2.1.toNat 0<0)
 else if x.1=19 then (if (c.2.2.2.2.1.getD x.2.1.toNat ([],0)).2=0 then decide (0<(EU c s x.2.1).length) else decide (((s.2.2.1.getD x.2.1.toNat []).length:Int)<(c.2.2.2.2.1.getD x.2.1.toNat ([],0)).2))
 else if x.1=20 then decide (0<(s.2.2.1.getD x.2.1.toNat []).length)
 else if x.1=25 then decide (t.2.2.1≤s.2.2.2.2.2.1)
 else true
def GD (c:CC) (s:bw):List Int:=pY s.1.length (Aa c s)
theorem lB {s:bw} {k:Nat} (h:k<s.1.length):s.1[k]? = some (cP s k):=by
 unfold cP
 simp [h]
theorem oN {c:CC} {s:bw} (hs:StOk c s) {k:Nat} (h:k<s.1.length):((cP s k).2.2.2=true∧(cP s k).1=[])∨((cP s k).2.2.2=false∧∃ fs f st w,cP s k=(fs++[f],st,w,false)∧Run1 c fs f st):=by
 rcases hs.th (cP s k) (fP _ h) with h | ⟨h1,fs,f,h2,h3⟩
 ·exact .inl h
 ·refine .inr ⟨h1,fs,f,(cP s k).2.1,(cP s k).2.2.1,?_,h3⟩
  rw [← h1,← h2]
theorem La {c:CC} {e:dy} {s:bw} {acc:List ((Int×Int×Bool)×Bool)} (hs:StOk c s) {k:Nat} (h:k<s.1.length) (z:List Int) :
  jO (c,e,s,acc) (z,(k:Int))=some (lF c (cP s k)):=by
 unfold jO lF
 rcases oN hs h with ⟨h1,h2⟩ | ⟨h1,fs,f,st,w,h2,h3⟩
 ·simp only [cv (lB h),Option.bind_some,h1,cond_true,if_true]
 ·obtain ⟨k',pc,hA⟩:=lU (s:=s) (i:=k) (by rw [lB h,h2]) h3
  have hx:ac c.1 f.1=some (ey c f.1.toNat):=by rw [hA.pc1]; exact aD _ hA.pc2
  rw [h2] at h1 ⊢
  have ht:=hA.t
  simp only [cv ht,Option.bind_some,cond_false,qT fs f (by have:=h3.n; omega),hx,Bool.false_eq_true,if_false]
  rw [mB,l7]
theorem aet {c:CC} {e:dy} {s:bw} {acc:List ((Int×Int×Bool)×Bool)} (hs:StOk c s) {k:Nat} (h:k<s.1.length) (z:Int) :
  pJ (c,e,s,acc) (z,(k:Int))=some (lF c (cP s k)):=La (e:=e) (acc:=acc) hs h []
theorem KS {c:CC} {e:dy} {s:bw} {a:List me} (hs:StOk c s) {k:Nat} (h:k<s.1.length) :
  co (c,e,s,a) (k:Int)=some (if (cP s k).2.2.2=true then (28,0,0) else lF c (cP s k)):=by
 rcases oN hs h with ⟨h1,h2⟩ | ⟨h1,fs,f,st,w,h2,h3⟩
 ·unfold co
  simp only [cv (lB h),Option.bind_some,h1,h2,List.length_nil,if_true]
  rfl
 ·obtain ⟨k',pc,hA⟩:=lU (s:=s) (i:=k) (by rw [lB h,h2]) h3
  rw [aa5 hA,h2]
  simp only [Bool.false_eq_true,if_false,lF]
  rw [mB,l7]
theorem abQ {c:CC} {e:dy} {s:bw} {acc:List ((Int×Int×Bool)×Bool)} (hs:StOk c s) (ch:Int):dz (c,e,s,acc) ch=some (EU c s ch):=by
 unfold dz EU
 rw [zm s.1.length (GE c s ch) hs.n (fun k hk cq ho=>by
  unfold gP
  simp only [aE (show (k:Int)<(s.1.length:Int) by omega),cond_true,cv (lB hk),Option.bind_some,La hs hk,aS (n:=s.1.length) (by have:=hs.n; omega) hk]
  unfold GE
  generalize lF c (cP s k)=x
  rw [show (bif x.1==(20:Int) then x.2.1==ch else false)=(x.1==20&&x.2.1==ch) by cases (x.1==(20:Int)) <;> rfl]
  cases hb:(x.1==20&&x.2.1==ch)
  ·rfl
  ·simp only [cond_true,List.length_singleton,ho,ah,Option.bind_some,if_true]) (fun cq=>by unfold gP; simp only [aQ (show ¬ (s.1.length:Int)<(s.1.length:Int) by omega),cond_false])]
 rfl
theorem acL {c:CC} {e:dy} {s:bw} {a:List me} (hs:StOk c s) (ch:Int):e7 (c,e,s,a) ch=some (EU c s ch):=by
 unfold e7 EU
 rw [zm s.1.length (GE c s ch) hs.n (fun k hk cq ho=>by
  unfold ff
  simp only [aE (show (k:Int)<(s.1.length:Int) by omega),cond_true,cv (lB hk),Option.bind_some,KS hs hk,aS (n:=s.1.length) (by have:=hs.n; omega) hk]
  unfold GE
  cases he:(cP s k).2.2.2
  ·simp only [Bool.false_eq_true,if_false,Bool.not_false,cond_true]
   generalize lF c (cP s k)=x
   rw [show (bif x.1==(20:Int) then x.2.1==ch else false)=(x.1==20&&x.2.1==ch) by cases (x.1==(20:Int)) <;> rfl]
   cases hb:(x.1==20&&x.2.1==ch)
   ·rfl
   ·simp only [cond_true,List.length_singleton,ho,ah,Option.bind_some,if_true]
  ·simp only [Bool.not_true,cond_false,lF,he,if_true]
   rfl) (fun cq=>by unfold ff; simp only [aQ (show ¬ (s.1.length:Int)<(s.1.length:Int) by omega),cond_false])]
 rfl
theorem PP {c:CC} (hc:df c) {s:bw} (hs:StOk c s) {k:Nat} (h:k<s.1.length) (he:(cP s k).2.2.2=false) : ∃ p,p<c.2.1.length∧vR c p (lF c (cP s k))∧lF c (cP s k)=mB c (cP s k):=by
 rcases oN hs h with ⟨h1,h2⟩ | ⟨h1,fs,f,st,w,h2,h3⟩
 ·rw [he] at h1; cases h1
 ·obtain ⟨p,pc,hA⟩:=lU (s:=s) (i:=k) (by rw [lB h,h2]) h3
  have hF:=hc.2.2.1 p pc hA.pc2 hA.pr
  rw [hA.x] at hF
  rw [h2]
  refine ⟨p,hA.pr.1,?_,rfl⟩
  show vR c p (mB c (fs++[f],st,w,false))
  rw [mB,l7]
  exact hF.2.2
theorem Pc {c:CC} (hc:df c) {e:dy} {s:bw} {acc:List ((Int×Int×Bool)×Bool)} (hs:StOk c s):d7 (c,e,s,acc)=some (GD c s):=by
 unfold d7 GD
 rw [zm s.1.length (Aa c s) hs.n (fun k hk cq ho=>by
  unfold iH
  have et:=cv (lB hk)
  have hp:jT (lF c (cP s k)) (c,e,s,acc) (cq,(k:Int)) (cP s k)=some (Aa c s k):=by
   unfold jT Aa
   dsimp only
   cases he:(cP s k).2.2.2
   rotate_left
   ·have hx:lF c (cP s k)=(29,0,0):=by unfold lF; rw [if_pos he]
    rw [hx]
    rfl
   obtain ⟨p,hpn,hO,-⟩:=PP hc hs hk he
   generalize lF c (cP s k)=x at *
   obtain ⟨op,u,b⟩:=x
   obtain ⟨o1,o2,o3,o4,o5,o6,o7,o8,o9,o10,o11,o12⟩:=hO
   dsimp only at o1 o2 o3 o4 o5 o6 o7 o8 o9 o10 o11 o12 ⊢
   simp only [Bool.false_eq_true,if_false]
   by_cases h21:op=21
   ·subst h21
    obtain ⟨q1,q2⟩:=o8 (.inl rfl)
    have eo:ac s.2.2.2.1 u=some (s.2.2.2.1.getD u.toNat 0):=bu 0 q1 (by have:=hs.fit.own; omega)
    simp only [Int.reduceBEq,cond_true,if_true,eo,Option.bind_some]
   rw [bf h21,if_neg h21]
   by_cases h19:op=19
   ·subst h19
    obtain ⟨q1,q2⟩:=o7 (.inl rfl)
    have ec:ac c.2.2.2.2.1 u=some (c.2.2.2.2.1.getD u.toNat ([],0)):=bu _ q1 (by omega)
    have eq:ac s.2.2.1 u=some (s.2.2.1.getD u.toNat []):=bu _ q1 (by have:=hs.fit.qs; omega)
    simp only [Int.reduceBEq,cond_true,cond_false,if_true,ec,eq,Option.bind_some,abQ hs]
    by_cases hz:(c.2.2.2.2.1.getD u.toNat ([],0)).2=0
    ·rw [if_pos hz,show ((c.2.2.2.2.1.getD u.toNat ([],0)).2==0)=true by simp only [beq_iff_eq]; exact hz,aQ (show ¬ ((s.2.2.1.getD u.toNat []).length:Int)<(c.2.2.2.2.1.getD u.toNat ([],0)).2 by omega)]
     simp only [Bool.not_false,Bool.and_true,cond_true,cond_false,Option.bind_some]
     congr 1
     rw [decide_eq_decide]
     omega
    ·rw [if_neg hz,show ((c.2.2.2.2.1.getD u.toNat ([],0)).2==0)=false by simp only [beq_eq_false_iff_ne]; exact hz]
     simp only [Bool.and_false,cond_false,Option.bind_some]
     cases decide (((s.2.2.1.getD u.toNat []).length:Int)<(c.2.2.2.2.1.getD u.toNat ([],0)).2) <;> rfl
   rw [bf h19,if_neg h19]
   by_cases h20:op=20
   ·subst h20
    obtain ⟨q1,q2⟩:=o7 (.inr rfl)
    have eq:ac s.2.2.1 u=some (s.2.2.1.getD u.toNat []):=bu _ q1 (by have:=hs.fit.qs; omega)
    simp only [Int.reduceBEq,cond_true,cond_false,if_true,eq,Option.bind_some]
    congr 1
    rw [decide_eq_decide]
    omega
   rw [bf h20,if_neg h20]
   by_cases h25:op=25
   ·subst h25
    simp only [Int.reduceBEq,cond_true,cond_false,if_true,et,Option.bind_some]
   rw [bf h25,if_neg h25]
   simp only [cond_false,he,Bool.not_false]
  simp only [aE (show (k:Int)<(s.1.length:Int) by omega),cond_true,et,Option.bind_some,La hs hk,hp,aS (n:=s.1.length) (by have:=hs.n; omega) hk]
  cases hb:Aa c s k
  ·rfl
  ·simp only [cond_true,List.length_singleton,ho,ah,Option.bind_some,if_true]) (fun cq=>by unfold iH; simp only [aQ (show ¬ (s.1.length:Int)<(s.1.length:Int) by omega),cond_false])]
 rfl
theorem ad1 {c:CC} (hc:df c) {e:dy} {s:bw} {a:List me} (hs:StOk c s):iy (c,e,s,a)=some (GD c s):=by
 unfold iy GD
 rw [zm s.1.length (Aa c s) hs.n (fun k hk cq ho=>by
  unfold hZ
  have et:=cv (lB hk)
  have hp:gD (c,e,s,a) (k:Int)=some (Aa c s k):=by
   unfold gD Aa
   dsimp only
   simp only [et,Option.bind_some,KS hs hk]
   cases he:(cP s k).2.2.2
   rotate_left
   ·rfl
   obtain ⟨p,hpn,hO,-⟩:=PP hc hs hk he
   generalize lF c (cP s k)=x at *
   obtain ⟨op,u,b⟩:=x
   obtain ⟨o1,o2,o3,o4,o5,o6,o7,o8,o9,o10,o11,o12⟩:=hO
   dsimp only at o1 o2 o3 o4 o5 o6 o7 o8 o9 o10 o11 o12 ⊢
   simp only [Bool.false_eq_true,if_false,cond_false]
   by_cases h21:op=21
   ·subst h21
    obtain ⟨q1,q2⟩:=o8 (.inl rfl)
    have eo:ac s.2.2.2.1 u=some (s.2.2.2.1.getD u.toNat 0):=bu 0 q1 (by have:=hs.fit.own; omega)
    simp only [Int.reduceBEq,cond_true,if_true,eo,Option.bind_some]
   rw [bf h21,if_neg h21]
   by_cases h19:op=19
   ·subst h19
    obtain ⟨q1,q2⟩:=o7 (.inl rfl)
    have ec:ac c.2.2.2.2.1 u=some (c.2.2.2.2.1.getD u.toNat ([],0)):=bu _ q1 (by omega)
    have eq:ac s.2.2.1 u=some (s.2.2.1.getD u.toNat []):=bu _ q1 (by have:=hs.fit.qs; omega)
    simp only [Int.reduceBEq,cond_true,cond_false,if_true,ec,eq,Option.bind_some,acL hs]
    by_cases hz:(c.2.2.2.2.1.getD u.toNat ([],0)).2=0
    ·rw [if_pos hz,show ((c.2.2.2.2.1.getD u.toNat ([],0)).2==0)=true by simp only [beq_iff_eq]; exact hz]
     simp only [cond_true]
     congr 1
     rw [decide_eq_decide]
     omega
    ·rw [if_neg hz,show ((c.2.2.2.2.1.getD u.toNat ([],0)).2==0)=false by simp only [beq_eq_false_iff_ne]; exact hz]
     rfl
   rw [bf h19,if_neg h19]
   by_cases h20:op=20
   ·subst h20
    obtain ⟨q1,q2⟩:=o7 (.inr rfl)
    have ec:ac c.2.2.2.2.1 u=some (c.2.2.2.2.1.getD u.toNat ([],0)):=bu _ q1 (by omega)
    have eq:ac s.2.2.1 u=some (s.2.2.1.getD u.toNat []):=bu _ q1 (by have:=hs.fit.qs; omega)
    have hcap:=hs.cap u.toNat (by omega)
    simp only [Int.reduceBEq,cond_true,cond_false,if_true,ec,eq,Option.bind_some]
    by_cases hz:(0:Int)<(c.2.2.2.2.1.getD u.toNat ([],0)).2
    ·simp only [aE hz,cond_true,Option.bind_some]
     congr 1
     rw [decide_eq_decide]
     omega
    ·simp only [aQ hz,cond_false,Option.bind_some]
     congr 1
     rw [eq_comm,decide_eq_false_iff_not]
     omega
   rw [bf h20,if_neg h20]
   by_cases h25:op=25
   ·subst h25
    simp only [Int.reduceBEq,cond_true,cond_false,if_true,et,Option.bind_some]
   rw [bf h25,if_neg h25]
   simp only [cond_false]
  simp only [aE (show (k:Int)<(s.1.length:Int) by omega),cond_true,Option.bind_some,hp,aS (n:=s.1.length) (by have:=hs.n; omega) hk]
  cases hb:Aa c s k
  ·rfl
  ·simp only [cond_true,List.length_singleton,ho,ah,Option.bind_some,if_true]) (fun cq=>by unfold hZ; simp only [aQ (show ¬ (s.1.length:Int)<(s.1.length:Int) by omega),cond_false])]
 rfl
open Go.Sm
set_option linter.unusedSimpArgs false
set_option linter.unusedVariables false
set_option maxRecDepth 4000
def n7 (c:CC) (s:bw):Nat→Int
 | 0=>-1
 | n+1=>if (lF c (cP s n)).1=25∧(n7 c s n<0∨(cP s n).2.2.1<n7 c s n) then (cP s n).2.2.1 else n7 c s n
def abD (s:bw) (w:Int):bw:=(s.1,s.2.1,s.2.2.1,s.2.2.2.1,s.2.2.2.2.1,w,s.2.2.2.2.2.2)
def nC (c:CC) (s:bw):bw:=
 if 0≤jz s then s else if s.2.2.2.2.2.2.1=0 then jM c s 0 3 else if 0<(GD c s).length then s else if 0≤n7 c s s.1.length then abD s (n7 c s s.1.length) else jM c s 0 2
theorem J7 {f:Int×Int→Option ((Int×Int)⊕Int)} (c:CC) (s:bw) (hn:s.1.length≤1048576)
  (hstep : ∀ k,k<s.1.length→∀ w:Int,f (w,(k:Int))=some (.inl (if (lF c (cP s k)).1=25∧(w<0∨(cP s k).2.2.1<w) then (cP s k).2.2.1 else w,(k:Int)+1)))
  (hend : ∀ w,f (w,(s.1.length:Int))=some (.inr w)):Itr.it f (-1,(0:Int))=some (n7 c s s.1.length):=
 dW (f:=f) (fun y=>s.1.length - y.2.toNat) (fun _=>n7 c s s.1.length) (fun y=>∃ k:Nat,y=(n7 c s k,(k:Int))∧k≤s.1.length)
  (fun y hy=>by
   obtain ⟨k,rfl,hk⟩:=hy
   rcases Nat.lt_or_ge k s.1.length with hlt | hge
   ·right
    refine ⟨(n7 c s (k+1),((k+1:Nat):Int)),?_,⟨k+1,rfl,by omega⟩,by dsimp only; omega,rfl⟩
    rw [hstep k hlt]
    rfl
   ·left
    have:k=s.1.length:=by omega
    subst this
    exact hend _) (s:=(-1,0)) ⟨0,rfl,by omega⟩ (by show s.1.length - (0:Int).toNat<_; omega)
theorem Jt {c:CC} (hc:df c) {e:dy} {s:bw} {a:List me} (hs:StOk c s) {i:Nat} (hi:i<s.1.length) (o:Int):bJ (c,e,s,a) o (i:Int)=some (c,e,jM c s i o,a):=by
 rcases oN hs hi with ⟨h1,h2⟩ | ⟨h1,fs,f,st,w,h2,h3⟩
 ·unfold bJ jM
  dsimp only
  rw [if_neg (by rw [h1]; simp)]
  simp only [cv (lB hi),Option.bind_some,h2,List.length_nil]
  rfl
 ·obtain ⟨k',pc,hA⟩:=lU (s:=s) (i:=i) (by rw [lB hi,h2]) h3
  exact PF hc hA o
theorem Q2 {c:CC} (hc:df c) {e:dy} {s:bw} {a:List me} (hs:StOk c s) (h1:0<s.1.length):gn (c,e,s,a)=some (c,e,nC c s,a):=by
 unfold gn nC
 dsimp only
 by_cases ho:0≤jz s
 ·rw [if_pos ho]
  have:(0:Int)≤s.2.2.2.2.2.2.2.2.2.1:=ho
  simp only [this,decide_true,cond_true]
 rw [if_neg ho]
 have : ¬ (0:Int)≤s.2.2.2.2.2.2.2.2.2.1:=ho
 simp only [this,decide_false,cond_false]
 by_cases hf:s.2.2.2.2.2.2.1=0
 ·rw [if_pos hf,bt hf]
  simp only [cond_true]
  rw [show bJ (c,e,s,a) 3 0=_ from Jt hc hs h1 3]
  rfl
 rw [if_neg hf,bf hf]
 simp only [cond_false,ad1 hc hs,Option.bind_some]
 by_cases hl:0<(GD c s).length
 ·rw [if_pos hl,aE (by omega)]
  rfl
 rw [if_neg hl,aQ (by omega)]
 have hw:=J7 (f:=er (c,e,s,a)) c s hs.n (fun k hk w=>by
  unfold er
  simp only [aE (show (k:Int)<(s.1.length:Int) by omega),cond_true,cv (lB hk),Option.bind_some,KS hs hk,aS (n:=s.1.length) (by have:=hs.n; omega) hk]
  cases he:(cP s k).2.2.2
  ·simp only [Bool.not_false,cond_true,Bool.false_eq_true,if_false,Option.bind_some,sn,uX,lE]
   by_cases hq:(lF c (cP s k)).1=25∧(w<0∨(cP s k).2.2.1<w)
   ·rw [if_pos hq,aE hq]
    rfl
   ·rw [if_neg hq,aQ hq]
    rfl
  ·have hx : ¬ ((lF c (cP s k)).1=25∧(w<0∨(cP s k).2.2.1<w)):=by unfold lF; rw [if_pos he]; simp
   simp only [Bool.not_true,cond_false,Option.bind_some,if_neg hx]) (fun w=>by unfold er; simp only [aQ (show ¬ (s.1.length:Int)<(s.1.length:Int) by omega),cond_false])
 simp only [cond_false,hw,Option.bind_some]
 by_cases hz:0≤n7 c s s.1.length
 ·rw [if_pos hz,aE hz]
  rfl
 ·rw [if_neg hz,aQ hz]
  simp only [cond_false]
  rw [show bJ (c,e,s,a) 2 0=_ from Jt hc hs h1 2]
  rfl
theorem Tj {c:CC} (hc:df c) {e:dy} {s:bw} {acc:List ((Int×Int×Bool)×Bool)} (hs:StOk c s) (h1:0<s.1.length):gJ (c,e,s,acc)=some (c,e,nC c s,acc):=by
 unfold gJ nC
 dsimp only
 by_cases ho:0≤jz s
 ·rw [if_pos ho]
  have:(0:Int)≤s.2.2.2.2.2.2.2.2.2.1:=ho
  simp only [this,decide_true,cond_true]
 rw [if_neg ho]
 have : ¬ (0:Int)≤s.2.2.2.2.2.2.2.2.2.1:=ho
 simp only [this,decide_false,cond_false]
 have et:=lB h1
 have e0:ac s.1 0=some (cP s 0):=cv et
 by_cases hf:s.2.2.2.2.2.2.1=0
 ·rw [if_pos hf,bt hf]
  simp only [cond_true,e0,Option.bind_some]
  rcases oN hs h1 with ⟨g1,g2⟩ | ⟨g1,fs,f,st,w,g2,g3⟩
  ·rw [g1]
   unfold jM
   dsimp only
   rw [if_neg (by rw [g1]; simp)]
   rfl
  ·obtain ⟨k',pc,hA⟩:=lU (s:=s) (i:=0) (by rw [et,g2]) g3
   obtain ⟨q1,q2,q3,q4⟩:=wn hc hA
   rw [oX hc hA,g2]
   simp only [Bool.not_false,cond_true,qT fs f (by have:=g3.n; omega),Option.bind_some,q1,q3,q4]
   rfl
 rw [if_neg hf,bf hf]
 simp only [cond_false,Pc hc hs,Option.bind_some]
 by_cases hl:0<(GD c s).length
 ·rw [if_pos hl,aE (by omega)]
  rfl
 rw [if_neg hl,aQ (by omega)]
 have hw:=J7 (f:=fL (c,e,s,acc)) c s hs.n (fun k hk w=>by
  unfold fL
  simp only [aE (show (k:Int)<(s.1.length:Int) by omega),cond_true,cv (lB hk),Option.bind_some,aet hs hk,aS (n:=s.1.length) (by have:=hs.n; omega) hk]
  generalize (lF c (cP s k)).1=op
  by_cases h25:op=25
  ·rw [bt h25]
   by_cases hwz:w<0
   ·rw [aE hwz,if_pos ⟨h25, .inl hwz⟩]
    rfl
   ·rw [aQ hwz]
    simp only [Bool.not_false,Bool.and_self,cond_true,cond_false,Option.bind_some]
    by_cases hq:(cP s k).2.2.1<w
    ·rw [aE hq,if_pos ⟨h25, .inr hq⟩]
     rfl
    ·rw [aQ hq,if_neg (by intro h; rcases h.2 with h | h; exact hwz h; exact hq h)]
     rfl
  ·rw [bf h25,if_neg (fun h=>h25 h.1)]
   rfl) (fun w=>by unfold fL; simp only [aQ (show ¬ (s.1.length:Int)<(s.1.length:Int) by omega),cond_false])
 simp only [cond_false,hw,Option.bind_some]
 by_cases hz:0≤n7 c s s.1.length
 ·rw [if_pos hz,aQ (by omega)]
  rfl
 ·rw [if_neg hz,aE (by omega)]
  simp only [cond_true,e0,Option.bind_some]
  rcases oN hs h1 with ⟨g1,g2⟩ | ⟨g1,fs,f,st,w,g2,g3⟩
  ·rw [g1]
   unfold jM
   dsimp only
   rw [if_neg (by rw [g1]; simp)]
   rfl
  ·obtain ⟨k',pc,hA⟩:=lU (s:=s) (i:=0) (by rw [et,g2]) g3
   obtain ⟨q1,q2,q3,q4⟩:=wn hc hA
   rw [oX hc hA,g2]
   simp only [Bool.not_false,cond_true,qT fs f (by have:=g3.n; omega),Option.bind_some,q1,q3,q4]
   rfl
open Go.Sm
set_option linter.unusedSimpArgs false
set_option linter.unusedVariables false
set_option maxRecDepth 4000
theorem mo {l:List Int} (h:l.length≤1048576):cG l=some l:=by
 unfold cG
 rw [d8 (be (by simp only [List.length_nil]; omega) (by omega))]
 rfl
theorem ado (r:List Fr) (z:List Int×Int×Bool) (h1:r.length≤1048576) (h2 : ∀ f∈r,f.2.length≤1048576):Itr.it (jh r) ((),0,(r,0),z)=some ((r,(r.length:Int)),z):=
 dW (f:=jh r) (fun s=>r.length - s.2.1.toNat) (fun _=>((r,(r.length:Int)),z)) (fun s=>∃ i:Nat,s=((),(i:Int),(r,(i:Int)),z)∧i≤r.length)
  (fun s hs=>by
   obtain ⟨i,rfl,hi⟩:=hs
   unfold jh
   rcases Nat.lt_or_ge i r.length with hlt | hge
   ·right
    refine ⟨((),((i+1:Nat):Int),(r,((i+1:Nat):Int)),z),?_,⟨i+1,rfl,by omega⟩,by dsimp only; omega,rfl⟩
    have hf:=h2 _ (fP (0,[]) hlt)
    simp only [aE (show (i:Int)<(r.length:Int) by omega),cond_true,aD (0,[]) hlt,Option.bind_some,mo hf,beq_self_eq_true,ah,aS (n:=r.length) (by omega) hlt,Int.toNat_natCast]
    rw [show ((r.getD i (0,[])).1,(r.getD i (0,[])).2)=r.getD i (0,[]) from rfl,iV (show r[i]? = some (r.getD i (0,[])) by simp [hlt])]
    rfl
   ·left
    have:i=r.length:=by omega
    subst this
    simp) (s:=((),0,(r,0),z)) ⟨0,rfl,by omega⟩ (by show r.length - (0:Int).toNat<_; omega)
theorem acz (r:List Th) (z:List Int×List (List Int)×List Int×List Int×Int×Int×Int×Int×Int×Int×Int×Int×List UInt8) (h1:r.length≤1048576) (h2 : ∀ t∈r,zs t):Itr.it (jk r) ((),0,(r,0),z)=some ((r,(r.length:Int)),z):=
 dW (f:=jk r) (fun s=>r.length - s.2.1.toNat) (fun _=>((r,(r.length:Int)),z)) (fun s=>∃ i:Nat,s=((),(i:Int),(r,(i:Int)),z)∧i≤r.length)
  (fun s hs=>by
   obtain ⟨i,rfl,hi⟩:=hs
   unfold jk
   rcases Nat.lt_or_ge i r.length with hlt | hge
   ·right
    refine ⟨((),((i+1:Nat):Int),(r,((i+1:Nat):Int)),z),?_,⟨i+1,rfl,by omega⟩,by dsimp only; omega,rfl⟩
    obtain ⟨q1,q2,q3⟩:=h2 _ (fP ([],[],0,false) hlt)
    have ec:cI (r.getD i ([],[],0,false)).1=some (r.getD i ([],[],0,false)).1:=by
     unfold cI
     rw [d8 (be (by simp only [List.length_nil]; omega) (by omega))]
     rfl
    simp only [aE (show (i:Int)<(r.length:Int) by omega),cond_true,aD ([],[],0,false) hlt,Option.bind_some,mo q2,ec,ado _ _ q1 q3,beq_self_eq_true,ah,aS (n:=r.length) (by omega) hlt,Int.toNat_natCast,aE (Int.le_refl _)]
    rw [show ((r.getD i ([],[],0,false)).1,(r.getD i ([],[],0,false)).2.1,(r.getD i ([],[],0,false)).2.2)=r.getD i ([],[],0,false) from rfl,iV (show r[i]? = some (r.getD i ([],[],0,false)) by simp [hlt])]
    rfl
   ·left
    have:i=r.length:=by omega
    subst this
    simp) (s:=((),0,(r,0),z)) ⟨0,rfl,by omega⟩ (by show r.length - (0:Int).toNat<_; omega)
theorem adi (r:List (List Int)) (a:List Th) (b:List Int) (z:List Int×List Int×Int×Int×Int×Int×Int×Int×Int×Int×List UInt8) (h1:r.length≤1048576) (h2 : ∀ q∈r,q.length≤1048576) :
  Itr.it (jq r) ((),0,a,b,(r,0),z)=some (a,b,(r,(r.length:Int)),z):=
 dW (f:=jq r) (fun s=>r.length - s.2.1.toNat) (fun _=>(a,b,(r,(r.length:Int)),z)) (fun s=>∃ i:Nat,s=((),(i:Int),a,b,(r,(i:Int)),z)∧i≤r.length)
  (fun s hs=>by
   obtain ⟨i,rfl,hi⟩:=hs
   unfold jq
   rcases Nat.lt_or_ge i r.length with hlt | hge
   ·right
    refine ⟨((),((i+1:Nat):Int),a,b,(r,((i+1:Nat):Int)),z),?_,⟨i+1,rfl,by omega⟩,by dsimp only; omega,rfl⟩
    have hf:=h2 _ (fP [] hlt)
    simp only [aE (show (i:Int)<(r.length:Int) by omega),cond_true,aD [] hlt,Option.bind_some,mo hf,beq_self_eq_true,ah,aS (n:=r.length) (by omega) hlt,Int.toNat_natCast]
    rw [iV (show r[i]? = some (r.getD i []) by simp [hlt])]
    rfl
   ·left
    have:i=r.length:=by omega
    subst this
    simp) (s:=((),0,a,b,(r,0),z)) ⟨0,rfl,by omega⟩ (by show r.length - (0:Int).toNat<_; omega)
theorem TO (s:bw) (hs:d9 s):ga s=some s:=by
 obtain ⟨h1,h2,h3,h4,h5,h6,h7⟩:=hs
 unfold ga dA iq
 dsimp only
 rw [d8 (be (by simp only [List.length_nil]; omega) (by omega))]
 simp only [List.nil_append,Option.bind_some,acz s.1 _ h1 h2,ah,aE (Int.le_refl _),cond_true,mo h3,mo h6,mo h7]
 rw [show aH ([]:List (List Int)).length s.2.2.1.length 24=true from be (by simp only [List.length_nil]; omega) (by omega)]
 simp only [cond_true,Option.bind_some,adi s.2.2.1 _ _ _ h4 h5,aE (Int.le_refl _)]
open Go.Sm
set_option linter.unusedSimpArgs false
set_option linter.unusedVariables false
set_option linter.unusedSectionVars false
set_option maxRecDepth 4000
abbrev jW:Type:=List UInt8×Int
def wU (l:List jW) (nm:List UInt8):Option jW:=l.find? fun x=>x.1==nm
def pv (l:List jW) (nm:List UInt8) (n:Int):Int:=match wU l nm with | some x=>x.2 | none=>n
theorem uC {α:Type} {p:α→Bool} (d:α) : ∀ {l:List α} {i:Nat},i<l.length→(∀ j,j<i→p (l.getD j d)=false)→p (l.getD i d)=true→l.find? p=some (l.getD i d)
 | [],_,h,_,_=>by simp at h
 | x::r,0,_,_,h=>by
  have h' : p x=true:=h
  simp [List.find?,h']
 | x::r,i+1,h,h1,h2=>by
  have hx:p x=false:=h1 0 (by omega)
  have:=uC (p:=p) d (l:=r) (i:=i) (by simpa using h) (fun j hj=>h1 (j+1) (by omega)) h2
  simp only [List.find?,hx]
  exact this
theorem Cd {α:Type} {p:α→Bool} (d:α) {l:List α} (h : ∀ j,j<l.length→p (l.getD j d)=false):l.find? p=none:=by
 rw [List.find?_eq_none]
 intro x hx
 obtain ⟨j,hj,rfl⟩:=List.mem_iff_getElem.1 hx
 have:=h j hj
 simp [hj] at this
 simp [this]
theorem Jn (l:List jW) (hl:l.length≤1048576) (nm:List UInt8) (n:Int):jI nm n l=some (pv l nm n):=by
 unfold jI eH pv wU
 rcases dH (f:=cC l nm) l.length (by omega) (fun i=>((l.getD i ([],0)).1==nm)=false) (fun i=>(i:Int))
  (fun i hi _=>by
   unfold cC mA
   simp only [aE (show (i:Int)<(l.length:Int) by omega),cond_true,aD ([],0) hi,Option.bind_some,aS (n:=l.length) (by omega) hi]
   cases hb:((l.getD i ([],0)).1==nm)
   ·left; exact ⟨rfl,rfl⟩
   ·right; exact ⟨by simp,rfl⟩)
  (fun _=>by unfold cC; rw [aQ (by omega)]; rfl) with ⟨hP,he⟩ | ⟨i,hi,hj,hP,he⟩
 ·rw [he,Cd (([],0):jW) hP]
  rfl
 ·rw [he,uC (([],0):jW) hi hj (by simpa using hP)]
  simp only [Option.bind_some,aE (show (0:Int)≤(i:Int) by omega),cond_true,aD ([],0) hi]
theorem Qg (l:List jW) (hl:l.length≤1048576) (nm:List UInt8):im l nm=some (match wU l nm with | some x=>(x.2,true) | none=>(0,false)):=by
 unfold im wU
 rcases dH (f:=gk l nm) l.length (by omega) (fun i=>((l.getD i ([],0)).1==nm)=false) (fun i=>((l.getD i ([],0)).2,true))
  (fun i hi _=>by
   unfold gk
   simp only [aE (show (i:Int)<(l.length:Int) by omega),cond_true,aD ([],0) hi,Option.bind_some,aS (n:=l.length) (by omega) hi]
   cases hb:((l.getD i ([],0)).1==nm)
   ·left; exact ⟨rfl,rfl⟩
   ·right; exact ⟨by simp,rfl⟩)
  (fun _=>by unfold gk; rw [aQ (by omega)]; rfl) with ⟨hP,he⟩ | ⟨i,hi,hj,hP,he⟩
 ·rw [he,Cd (([],0):jW) hP]
  rfl
 ·rw [he,uC (([],0):jW) hi hj (by simpa using hP)]
  rfl
def lR (s:bw) (l:List Int):bw:=(s.1,l,s.2.2)
def ot (s:bw) (l:List Int):bw:=(s.1,s.2.1,s.2.2.1,s.2.2.2.1,l,s.2.2.2.2.2)
def ql (s:bw) (l:List Int):bw:=(s.1,s.2.1,s.2.2.1,l,s.2.2.2.2)
def eQ (c:CC) (l:List jW):List Int:=c.2.2.2.1.map fun v=>pv l v.1 v.2
def eF (c:CC) (l:List jW):List Int:=c.2.2.2.2.2.2.1.map fun f=>pv l f 0
theorem mS {α β:Type} {xs:List α} {i:Nat} (g:α→β) (d:α) (h:i<xs.length):(xs.map g).take (i+1)=(xs.map g).take i++[g (xs.getD i d)]:=by
 rw [List.take_add_one]
 simp [h]
section
variable (c:CC) (hs:dD c) (l:List jW) (hl:l.length≤1048576)
include hs hl
theorem acR (e:dy) (s:bw) (acc:List ((Int×Int×Bool)×Bool)):Itr.it (jg c l) (fl 0 (c,e,lR s [],acc))=some (fl 0 (c,e,lR s (eQ c l),acc)).2:=by
 have hn:c.2.2.2.1.length≤1048576:=hs.2.2.1
 refine dW (f:=jg c l) (fun y=>c.2.2.2.1.length - y.1.toNat) (fun _=>(fl 0 (c,e,lR s (eQ c l),acc)).2) (fun y=>∃ i:Nat,y=fl (i:Int) (c,e,lR s ((eQ c l).take i),acc)∧i≤c.2.2.2.1.length)
  (fun y hy=>by
   obtain ⟨i,rfl,hi⟩:=hy
   unfold jg
   rcases Nat.lt_or_ge i c.2.2.2.1.length with hlt | hge
   ·right
    refine ⟨fl ((i+1:Nat):Int) (c,e,lR s ((eQ c l).take (i+1)),acc),?_,⟨i+1,rfl,by omega⟩,by show _ - ((i+1:Nat):Int).toNat<_ - (i:Int).toNat; omega,rfl⟩
    have e1 : ∀ v:Int,aH ((eQ c l).take i).length ([v]:List Int).length 8=true:=fun v=>be (by simp only [List.length_take,List.length_singleton]; omega) (by omega)
    have hd:decide ((fl (i:Int) (c,e,lR s ((eQ c l).take i),acc)).1<(c.2.2.2.1.length:Int))=true:=aE (show (i:Int)<(c.2.2.2.1.length:Int) by omega)
    rw [show eQ c l=c.2.2.2.1.map (fun v=>pv l v.1 v.2) from rfl] at e1 ⊢
    rw [mS _ (([],0):jW) hlt]
    simp only [fl,lR,show (i:Int)<(c.2.2.2.1.length:Int) by omega,decide_true,cond_true,aD ([],0) hlt,Option.bind_some,Jn l hl,ah,e1,aS (n:=c.2.2.2.1.length) (by omega) hlt]
    rfl
   ·left
    have:i=c.2.2.2.1.length:=by omega
    subst this
    have ht:(eQ c l).take c.2.2.2.1.length=eQ c l:=List.take_of_length_le (by simp [eQ])
    simp only [fl,ht,Int.lt_irrefl,decide_false,cond_false]) ⟨0,rfl,by omega⟩ (by show c.2.2.2.1.length - (0:Int).toNat<_; omega)
theorem ack (e:dy) (s:bw) (a:List me):Itr.it (fF c l) (jN 0 (c,e,lR s [],a))=some (jN 0 (c,e,lR s (eQ c l),a)).2:=by
 have hn:c.2.2.2.1.length≤1048576:=hs.2.2.1
 refine dW (f:=fF c l) (fun y=>c.2.2.2.1.length - y.1.toNat) (fun _=>(jN 0 (c,e,lR s (eQ c l),a)).2) (fun y=>∃ i:Nat,y=jN (i:Int) (c,e,lR s ((eQ c l).take i),a)∧i≤c.2.2.2.1.length)
  (fun y hy=>by
   obtain ⟨i,rfl,hi⟩:=hy
   unfold fF
   rcases Nat.lt_or_ge i c.2.2.2.1.length with hlt | hge
   ·right
    refine ⟨jN ((i+1:Nat):Int) (c,e,lR s ((eQ c l).take (i+1)),a),?_,⟨i+1,rfl,by omega⟩,by show _ - ((i+1:Nat):Int).toNat<_ - (i:Int).toNat; omega,rfl⟩
    have e1 : ∀ v:Int,aH ((eQ c l).take i).length ([v]:List Int).length 8=true:=fun v=>be (by simp only [List.length_take,List.length_singleton]; omega) (by omega)
    rw [show eQ c l=c.2.2.2.1.map (fun v=>pv l v.1 v.2) from rfl] at e1 ⊢
    rw [mS _ (([],0):jW) hlt]
    simp only [jN,lR,show (i:Int)<(c.2.2.2.1.length:Int) by omega,decide_true,cond_true,aD ([],0) hlt,Option.bind_some,Qg l hl,ah,e1,aS (n:=c.2.2.2.1.length) (by omega) hlt]
    unfold pv
    cases wU l (c.2.2.2.1.getD i ([],0)).1
    ·simp only [Bool.not_false,cond_true,Option.bind_some,e1]
     rfl
    ·simp only [Bool.not_true,cond_false,Option.bind_some,e1,cond_true]
     rfl
   ·left
    have:i=c.2.2.2.1.length:=by omega
    subst this
    have ht:(eQ c l).take c.2.2.2.1.length=eQ c l:=List.take_of_length_le (by simp [eQ])
    simp only [jN,ht,Int.lt_irrefl,decide_false,cond_false]) ⟨0,rfl,by omega⟩ (by show c.2.2.2.1.length - (0:Int).toNat<_; omega)
theorem aad (e:dy) (s:bw) (acc:List ((Int×Int×Bool)×Bool)):Itr.it (jo c l) (fl 0 (c,e,ot s [],acc))=some (fl 0 (c,e,ot s (eF c l),acc)).2:=by
 have hn:c.2.2.2.2.2.2.1.length≤1048576:=hs.2.2.2.2.2.1
 refine dW (f:=jo c l) (fun y=>c.2.2.2.2.2.2.1.length - y.1.toNat) (fun _=>(fl 0 (c,e,ot s (eF c l),acc)).2) (fun y=>∃ i:Nat,y=fl (i:Int) (c,e,ot s ((eF c l).take i),acc)∧i≤c.2.2.2.2.2.2.1.length)
  (fun y hy=>by
   obtain ⟨i,rfl,hi⟩:=hy
   unfold jo
   rcases Nat.lt_or_ge i c.2.2.2.2.2.2.1.length with hlt | hge
   ·right
    refine ⟨fl ((i+1:Nat):Int) (c,e,ot s ((eF c l).take (i+1)),acc),?_,⟨i+1,rfl,by omega⟩,by show _ - ((i+1:Nat):Int).toNat<_ - (i:Int).toNat; omega,rfl⟩
    have e1 : ∀ v:Int,aH ((eF c l).take i).length ([v]:List Int).length 8=true:=fun v=>be (by simp only [List.length_take,List.length_singleton]; omega) (by omega)
    rw [show eF c l=c.2.2.2.2.2.2.1.map (fun f=>pv l f 0) from rfl] at e1 ⊢
    rw [mS _ ([]:List UInt8) hlt]
    simp only [fl,ot,show (i:Int)<(c.2.2.2.2.2.2.1.length:Int) by omega,decide_true,cond_true,aD [] hlt,Option.bind_some,Jn l hl,ah,e1,aS (n:=c.2.2.2.2.2.2.1.length) (by omega) hlt]
    rfl
   ·left
    have:i=c.2.2.2.2.2.2.1.length:=by omega
    subst this
    have ht:(eF c l).take c.2.2.2.2.2.2.1.length=eF c l:=List.take_of_length_le (by simp [eF])
    simp only [fl,ht,Int.lt_irrefl,decide_false,cond_false]) ⟨0,rfl,by omega⟩ (by show c.2.2.2.2.2.2.1.length - (0:Int).toNat<_; omega)
theorem aac (e:dy) (s:bw) (a:List me):Itr.it (fE c l) (jN 0 (c,e,ot s [],a))=some (jN 0 (c,e,ot s (eF c l),a)).2:=by
 have hn:c.2.2.2.2.2.2.1.length≤1048576:=hs.2.2.2.2.2.1
 refine dW (f:=fE c l) (fun y=>c.2.2.2.2.2.2.1.length - y.1.toNat) (fun _=>(jN 0 (c,e,ot s (eF c l),a)).2) (fun y=>∃ i:Nat,y=jN (i:Int) (c,e,ot s ((eF c l).take i),a)∧i≤c.2.2.2.2.2.2.1.length)
  (fun y hy=>by
   obtain ⟨i,rfl,hi⟩:=hy
   unfold fE
   rcases Nat.lt_or_ge i c.2.2.2.2.2.2.1.length with hlt | hge
   ·right
    refine ⟨jN ((i+1:Nat):Int) (c,e,ot s ((eF c l).take (i+1)),a),?_,⟨i+1,rfl,by omega⟩,by show _ - ((i+1:Nat):Int).toNat<_ - (i:Int).toNat; omega,rfl⟩
    have e1 : ∀ v:Int,aH ((eF c l).take i).length ([v]:List Int).length 8=true:=fun v=>be (by simp only [List.length_take,List.length_singleton]; omega) (by omega)
    rw [show eF c l=c.2.2.2.2.2.2.1.map (fun f=>pv l f 0) from rfl] at e1 ⊢
    rw [mS _ ([]:List UInt8) hlt]
    simp only [jN,ot,show (i:Int)<(c.2.2.2.2.2.2.1.length:Int) by omega,decide_true,cond_true,aD [] hlt,Option.bind_some,Qg l hl,ah,e1,aS (n:=c.2.2.2.2.2.2.1.length) (by omega) hlt]
    unfold pv
    cases wU l (c.2.2.2.2.2.2.1.getD i []) <;> rfl
   ·left
    have:i=c.2.2.2.2.2.2.1.length:=by omega
    subst this
    have ht:(eF c l).take c.2.2.2.2.2.2.1.length=eF c l:=List.take_of_length_le (by simp [eF])
    simp only [jN,ht,Int.lt_irrefl,decide_false,cond_false]) ⟨0,rfl,by omega⟩ (by show c.2.2.2.2.2.2.1.length - (0:Int).toNat<_; omega)
end
section
variable (c:CC) (hs:dD c)
include hs
theorem aby (e:dy) (s:bw) (acc:List ((Int×Int×Bool)×Bool)):Itr.it (jn c) (fl 0 (c,e,ql s [],acc))=some (fl 0 (c,e,ql s (List.replicate c.2.2.2.2.2.1.length (-1)),acc)).2:=by
 have hn:c.2.2.2.2.2.1.length≤1048576:=hs.2.2.2.2.1
 refine dW (f:=jn c) (fun y=>c.2.2.2.2.2.1.length - y.1.toNat) (fun _=>(fl 0 (c,e,ql s (List.replicate c.2.2.2.2.2.1.length (-1)),acc)).2) (fun y=>∃ i:Nat,y=fl (i:Int) (c,e,ql s (List.replicate i (-1)),acc)∧i≤c.2.2.2.2.2.1.length)
  (fun y hy=>by
   obtain ⟨i,rfl,hi⟩:=hy
   unfold jn
   rcases Nat.lt_or_ge i c.2.2.2.2.2.1.length with hlt | hge
   ·right
    refine ⟨fl ((i+1:Nat):Int) (c,e,ql s (List.replicate (i+1) (-1)),acc),?_,⟨i+1,rfl,by omega⟩,by show _ - ((i+1:Nat):Int).toNat<_ - (i:Int).toNat; omega,rfl⟩
    have e1:aH (List.replicate i (-1:Int)).length ([-1]:List Int).length 8=true:=be (by simp only [List.length_replicate,List.length_singleton]; omega) (by omega)
    rw [List.replicate_succ']
    simp only [fl,ql,show (i:Int)<(c.2.2.2.2.2.1.length:Int) by omega,decide_true,cond_true,ah,e1,aS (n:=c.2.2.2.2.2.1.length) (by omega) hlt]
    rfl
   ·left
    have:i=c.2.2.2.2.2.1.length:=by omega
    subst this
    simp only [fl,Int.lt_irrefl,decide_false,cond_false]) ⟨0,rfl,by omega⟩ (by show c.2.2.2.2.2.1.length - (0:Int).toNat<_; omega)
theorem adw (e:dy) (s:bw) (a:List me):Itr.it (fR c) (jN 0 (c,e,ql s [],a))=some (jN 0 (c,e,ql s (List.replicate c.2.2.2.2.2.1.length (-1)),a)).2:=by
 have hn:c.2.2.2.2.2.1.length≤1048576:=hs.2.2.2.2.1
 refine dW (f:=fR c) (fun y=>c.2.2.2.2.2.1.length - y.1.toNat) (fun _=>(jN 0 (c,e,ql s (List.replicate c.2.2.2.2.2.1.length (-1)),a)).2) (fun y=>∃ i:Nat,y=jN (i:Int) (c,e,ql s (List.replicate i (-1)),a)∧i≤c.2.2.2.2.2.1.length)
  (fun y hy=>by
   obtain ⟨i,rfl,hi⟩:=hy
   unfold fR
   rcases Nat.lt_or_ge i c.2.2.2.2.2.1.length with hlt | hge
   ·right
    refine ⟨jN ((i+1:Nat):Int) (c,e,ql s (List.replicate (i+1) (-1)),a),?_,⟨i+1,rfl,by omega⟩,by show _ - ((i+1:Nat):Int).toNat<_ - (i:Int).toNat; omega,rfl⟩
    have e1:aH (List.replicate i (-1:Int)).length ([-1]:List Int).length 8=true:=be (by simp only [List.length_replicate,List.length_singleton]; omega) (by omega)
    rw [List.replicate_succ']
    simp only [jN,ql,show (i:Int)<(c.2.2.2.2.2.1.length:Int) by omega,decide_true,cond_true,ah,e1,aS (n:=c.2.2.2.2.2.1.length) (by omega) hlt]
    rfl
   ·left
    have:i=c.2.2.2.2.2.1.length:=by omega
    subst this
    simp only [jN,Int.lt_irrefl,decide_false,cond_false]) ⟨0,rfl,by omega⟩ (by show c.2.2.2.2.2.1.length - (0:Int).toNat<_; omega)
end
open Go.Sm
set_option linter.unusedSimpArgs false
set_option linter.unusedVariables false
set_option maxRecDepth 4000
def u7 (c:CC):bw:=([],[],List.replicate c.2.2.2.2.1.length [],[],[],0,64,(0,0,0),-1,-1,0,[])
def oz (c:CC) (l:List jW):bw:=([([(c.2.1.getD (c.2.1.length - 1) 0,List.replicate (c.2.2.1.getD (c.2.1.length - 1) 0).toNat 0)],[],0,false)],eQ c l,List.replicate c.2.2.2.2.1.length [],List.replicate c.2.2.2.2.2.1.length (-1),eF c l,0,64,(0,0,0),-1,-1,0,[])
def rz:bw:=([],[],[],[],[],0,0,(0,0,0),0,0,0,[])
def PB (c:CC) (e:dy) (l:List jW):bw:=nC c (jF c e.1 0 (oz c l)).1
def Jp (e:dy):Prop:=0≤e.1∧e.1<4∧0≤e.2.1∧e.2.1≤8∧0≤e.2.2∧e.2.2≤8
theorem U2 (e:dy) : ∃ b,kD e=some b∧jl e=some b∧(b=true↔Jp e):=by
 refine ⟨decide (0≤e.1∧e.1<4∧0≤e.2.1∧e.2.1≤8∧0≤e.2.2∧e.2.2≤8),?_,?_,decide_eq_true_iff⟩
 ·unfold kD
  simp only [lE]
  congr 1
  rw [decide_eq_decide]
  omega
 ·unfold jl
  simp only [lE]
  congr 1
  rw [decide_eq_decide]
  omega
theorem Pu {c:CC} (hs:dD c):d9 (u7 c):=by
 obtain ⟨s1,s2,s3,s4,s5,s6,s7⟩:=hs
 refine ⟨by simp [u7],fun t ht=>by simp [u7] at ht,by simp [u7],by simpa [u7] using s4,fun q hq=>?_,by simp [u7],by simp [u7]⟩
 rw [List.eq_of_mem_replicate hq]
 simp
theorem Qm {c:CC} (hc:df c) (l:List jW):rR c (oz c l) 0∧Fit1 c (oz c l)∧d9 (oz c l):=by
 have hn:=hc.2.1.1.1
 obtain ⟨s1,s2,s3,s4,s5,s6,s7⟩:=hc.2.2.2
 have hfr:um c (c.2.1.getD (c.2.1.length - 1) 0,List.replicate (c.2.2.1.getD (c.2.1.length - 1) 0).toNat 0):=IZ hc (by omega)
 have hloc:=FT hc hfr
 refine ⟨⟨[],_,[],0,rfl,⟨by simp,by simp,fun g hg=>?_⟩⟩,⟨by simp [oz,eQ],by simp [oz],by simp [oz],by simp [oz,eF]⟩,by simp [oz],fun t ht=>?_,by simpa [oz,eQ] using s3,by simpa [oz] using s4,fun q hq=>?_,by simpa [oz] using s5,by simpa [oz,eF] using s6⟩
 ·simp only [List.nil_append,List.mem_singleton] at hg
  rw [hg]; exact hfr
 ·simp only [oz,List.mem_singleton] at ht
  rw [ht]
  refine ⟨by simp,by simp,fun g hg=>?_⟩
  simp only [List.mem_singleton] at hg
  rw [hg]
  omega
 ·rw [List.eq_of_mem_replicate hq]
  simp
theorem RH {c:CC} (hc:df c) (kind:Int) {s:bw} {i:Nat} (hs:StOk c s) (hr:rR c s i) (hsm:d9 s):StOk c (jF c kind i s).1∧d9 (jF c kind i s).1∧(jF c kind i s).1.1.length=s.1.length:=by
 obtain ⟨fs,f,st,w,ht,hr⟩:=hr
 obtain ⟨fs',f',st',g1,g2,g3,g4⟩:=BI hc kind 64 ht hr
 have base : ∀ (q:bw) (w' : Int),q.1=s.1.set i (fs' ++ [f'],st',w',false)→q.2.1=s.2.1→q.2.2.1=s.2.2.1→q.2.2.2.1=s.2.2.2.1→q.2.2.2.2.1=s.2.2.2.2.1→StOk c q∧d9 q∧q.1.length=s.1.length:=by
  intro q w' h1 h2 h3 h4 h5
  refine ⟨⟨by rw [h1]; simpa using hs.n,fun t ht=>?_,⟨by rw [h2]; exact hs.fit.1,by rw [h3]; exact hs.fit.2,by rw [h4]; exact hs.fit.3,by rw [h5]; exact hs.fit.4⟩,fun j hj=>by rw [h3]; exact hs.cap j hj⟩,?_,by rw [h1]; simp⟩
  ·rw [h1] at ht
   rcases List.mem_or_eq_of_mem_set ht with ht | rfl
   ·exact hs.th t ht
   ·exact .inr ⟨rfl,fs',f',rfl,g2⟩
  ·obtain ⟨h1',h2',h3',h4',h5',h6',h7'⟩:=hsm
   unfold d9
   rw [h1,h2,h3,h4,h5]
   refine ⟨by simpa using h1',fun t ht=>?_,h3',h4',h5',h6',h7'⟩
   rcases List.mem_or_eq_of_mem_set ht with ht | rfl
   ·exact h2' t ht
   ·have:=g2.n
    have:=g2.m
    exact ⟨by simp only [List.length_append,List.length_singleton]; omega,by dsimp only; omega,fun g hg=>by have:=FT hc (g2.fr g hg); omega⟩
 unfold jF
 generalize ea c kind i 64 s=q at *
 obtain ⟨b,q⟩:=q
 dsimp only at *
 obtain ⟨k1,k2,k3,k4,k5,k6,k7,k8,k9⟩:=g3
 have ht' : q.1[i]? = some (fs' ++ [f'],st',w,false):=by rw [g1]; exact List.getElem?_set_self (mX ht)
 split
 ·unfold tT
  dsimp only
  split
  ·refine base _ (ad (q.2.2.2.2.2.1+(mB c (cP q i)).2.1)) ?_ k1 k2 k3 k4
   show q.1.set i ((cP q i).1,(cP q i).2.1,_,(cP q i).2.2.2)=_
   rw [qS ht',g1,List.set_set]
  split
  ·dsimp only
   split
   ·exact base _ w g1 k1 k2 k3 k4
   ·exact base _ w g1 k1 k2 k3 k4
  split
  ·exact base _ w g1 k1 k2 k3 k4
  ·exact base _ w g1 k1 k2 k3 k4
 ·exact base _ w g1 k1 k2 k3 k4
theorem QM {c:CC} {s:bw} (hs:StOk c s) (hsm:d9 s):StOk c (nC c s)∧d9 (nC c s):=by
 have he : ∀ o,StOk c (jM c s 0 o)∧d9 (jM c s 0 o):=by
  intro o
  unfold jM
  dsimp only
  split
  ·exact ⟨⟨hs.n,hs.th,⟨hs.fit.1,hs.fit.2,hs.fit.3,hs.fit.4⟩,hs.cap⟩,hsm⟩
  ·exact ⟨⟨hs.n,hs.th,⟨hs.fit.1,hs.fit.2,hs.fit.3,hs.fit.4⟩,hs.cap⟩,hsm⟩
 unfold nC
 split
 ·exact ⟨hs,hsm⟩
 split
 ·exact he 3
 split
 ·exact ⟨hs,hsm⟩
 split
 ·exact ⟨⟨hs.n,hs.th,⟨hs.fit.1,hs.fit.2,hs.fit.3,hs.fit.4⟩,hs.cap⟩,hsm⟩
 ·exact he 2
theorem ad5 {c:CC} (hc:df c) (l:List jW):StOk c (oz c l):=by
 obtain ⟨⟨fs,f,st,w,h1,h2⟩,hf,_⟩:=Qm hc l
 refine ⟨by simp [oz],fun t ht=>?_,hf,fun j hj=>?_⟩
 ·have:t=(fs++[f],st,w,false):=by
   simp only [oz,List.mem_singleton] at ht
   have h1' : some (_:Th)=some (fs++[f],st,w,false):=h1
   rw [ht]
   exact Option.some.inj h1'
  rw [this]
  exact .inr ⟨rfl,fs,f,rfl,h2⟩
 ·show ((List.getD (List.replicate c.2.2.2.2.1.length []) j []).length:Int)≤_
  have h0:=(hc.2.1.2.2.2 j hj).1
  rw [show List.getD (List.replicate c.2.2.2.2.1.length ([]:List Int)) j []=[] by simp [List.getD_eq_getElem?_getD,List.getElem?_replicate,hj]]
  exact h0
theorem aaI {c:CC} (hs:dD c) (h:VE c 0):df c:=by
 rcases h with ⟨_,h⟩ | ⟨_,_,h⟩ | ⟨_,_,_,h⟩ | ⟨h1,h2,h3,_⟩
 ·cases h
 ·cases h
 ·cases h
 ·exact ⟨h1,h2,h3,hs⟩
theorem On (c:CC) (hs:dD c) (e:dy) (l:List jW) (hl:l.length≤1048576) : ∃ s f,lm c e l=some (s,f)∧jE c e l=some (s,f)∧d9 s∧(f=0→df c∧Jp e∧s=PB c e l∧StOk c s):=by
 obtain ⟨j,k,err,v1,v2,v3⟩:=MF c hs
 have hsn:d9 rz:=⟨by simp [rz],fun t ht=>by simp [rz] at ht,by simp [rz],by simp [rz],fun q hq=>by simp [rz] at hq,by simp [rz],by simp [rz]⟩
 unfold lm jE
 dsimp only
 rw [v1,v2]
 simp only [Option.bind_some]
 by_cases he:err=0
 rotate_left
 ·rw [nt he]
  exact ⟨rz,err,rfl,rfl,hsn,fun h=>absurd h he⟩
 subst he
 have hc:=aaI hs v3
 obtain ⟨b,b1,b2,b3⟩:=U2 e
 simp only [bne_self_eq_false,cond_false,b1,b2,Option.bind_some]
 cases b
 ·exact ⟨rz,1,rfl,rfl,hsn,fun h=>(by cases h)⟩
 have hp:=b3.1 rfl
 simp only [Bool.not_true,cond_false]
 by_cases h64:(64:Int)<l.length
 ·rw [aE h64]
  exact ⟨rz,4,rfl,rfl,hsn,fun h=>(by cases h)⟩
 rw [aQ h64]
 simp only [cond_false]
 have hch:(c.2.2.2.2.1.length:Int)≤1048576:=by have:=hs.2.2.2.1; omega
 have hck:decide (0≤(c.2.2.2.2.1.length:Int)∧(c.2.2.2.2.1.length:Int) * 24≤281474976710656∧(c.2.2.2.2.1.length:Int)≤maxLen)=true:=aE ⟨by omega,by omega,by simp only [maxLen]; omega⟩
 have hn:=hc.2.1.1.1
 have hn2:=hc.2.1.1.2.1
 have hs1:=hs.1
 have ew:ad ((c.2.1.length:Int) - 1)=((c.2.1.length - 1:Nat):Int):=by rw [bi (by omega) (by omega)]; omega
 have eb:ac c.2.1 ((c.2.1.length - 1:Nat):Int)=some (c.2.1.getD (c.2.1.length - 1) 0):=aD 0 (by omega)
 have el:ac c.2.2.1 ((c.2.1.length - 1:Nat):Int)=some (c.2.2.1.getD (c.2.1.length - 1) 0):=aD 0 (by omega)
 obtain ⟨_,_,_,_,q5,q6⟩:=hc.2.1.2.2.1 (c.2.1.length - 1) (by omega)
 have hlk:decide (0≤c.2.2.1.getD (c.2.1.length - 1) 0∧c.2.2.1.getD (c.2.1.length - 1) 0 * 8≤281474976710656∧c.2.2.1.getD (c.2.1.length - 1) 0≤maxLen)=true:=aE ⟨q5,by omega,by simp only [maxLen]; omega⟩
 obtain ⟨r1,r2,r3⟩:=Qm hc l
 have so:=ad5 hc l
 obtain ⟨st1,st2,st3⟩:=RH hc e.1 so r1 r3
 obtain ⟨st4,st5⟩:=QM st1 st2
 have hlen:0<(jF c e.1 0 (oz c l)).1.1.length:=by rw [st3]; simp [oz]
 refine ⟨PB c e l,0,?_,?_,st5,fun _=>⟨hc,hp,rfl,st4⟩⟩
 ·simp only [hck,ah,cond_true]
  refine (congrArg (fun o:Option bw=>o.bind _) (TO (u7 c) (Pu hs))).trans ?_
  simp only [Option.bind_some]
  refine (congrArg (fun o:Option n4=>o.bind _) (acR c hs l hl e (u7 c) [])).trans ?_
  simp only [Option.bind_some]
  refine (congrArg (fun o:Option n4=>o.bind _) (aad c hs l hl e (lR (u7 c) (eQ c l)) [])).trans ?_
  simp only [Option.bind_some]
  refine (congrArg (fun o:Option n4=>o.bind _) (aby c hs e (ot (lR (u7 c) (eQ c l)) (eF c l)) [])).trans ?_
  simp only [Option.bind_some,fl,ew,eb,el,hlk,cond_true]
  refine (congrArg (fun o:Option aO=>o.bind _) (YJ hc e [] r1 r2)).trans ?_
  simp only [Option.bind_some,Tj hc st1 hlen]
  rfl
 ·refine (congrArg (fun o:Option sF=>o.bind _) (ack c hs l hl e ([],[],[],[],[],0,64,(0,0,0),-1,-1,0,[]) [])).trans ?_
  simp only [Option.bind_some]
  refine (congrArg (fun o:Option sF=>o.bind _) (aac c hs l hl e (lR ([],[],[],[],[],0,64,(0,0,0),-1,-1,0,[]) (eQ c l)) [])).trans ?_
  simp only [Option.bind_some,hck,ah,cond_true]
  refine (congrArg (fun o:Option sF=>o.bind _) (adw c hs e (ot (lR (u7 c) (eQ c l)) (eF c l)) [])).trans ?_
  simp only [Option.bind_some,jN,ew,eb,el,hlk,cond_true]
  refine (congrArg (fun o:Option aG=>o.bind _) (Z2 hc e [] (by simp) r1 r2 r3)).trans ?_
  simp only [Option.bind_some,Q2 hc st1 hlen]
  rfl
open Go.Sm
set_option linter.unusedSimpArgs false
set_option linter.unusedVariables false
set_option maxRecDepth 4000
abbrev gC:Type:=List UInt8
abbrev Df:Type:=aP
theorem JQ {α:Type} {f:Int→Option (Int⊕(Unit⊕Int))} (xs:List α) (d:α) (p:α→Bool) (hn:xs.length≤1048576)
  (hstep : ∀ i,i<xs.length→f (i:Int)=some (bif p (xs.getD i d) then .inr (.inr (i:Int)) else .inl ((i:Int)+1))) (hend:f (xs.length:Int)=some (.inr (.inl ()))) :
  ((∀ j,j<xs.length→p (xs.getD j d)=false)∧Itr.it f 0=some (.inl ()))∨∃ i,i<xs.length∧(∀ j,j<i→p (xs.getD j d)=false)∧p (xs.getD i d)=true∧Itr.it f 0=some (.inr (i:Int)):=by
 rcases dH (f:=f) xs.length (by omega) (fun i=>p (xs.getD i d)=false) (fun i=>(i:Int))
  (fun i hi _=>by
   rw [hstep i hi]
   cases p (xs.getD i d)
   ·left; exact ⟨rfl,rfl⟩
   ·right; exact ⟨by simp,rfl⟩) (fun _=>hend) with ⟨h1,h2⟩ | ⟨i,h1,h2,h3,h4⟩
 ·exact .inl ⟨h1,h2⟩
 ·exact .inr ⟨i,h1,h2,by simpa using h3,h4⟩
theorem rg (l:List Df) (hl:l.length≤1048576) (nm:gC) :
  (bB l nm=some (-1)∧∀ j,j<l.length→(l.getD j ([],[])).1≠nm)∨∃ i:Nat,bB l nm=some (i:Int)∧i<l.length∧(l.getD i ([],[])).1=nm∧∀ j,j<i→(l.getD j ([],[])).1≠nm:=by
 unfold bB
 rcases JQ (f:=fW l nm) l ([],[]) (fun x=>x.1==nm) hl
  (fun i hi=>by
   unfold fW
   simp only [aE (show (i:Int)<(l.length:Int) by omega),cond_true,aD ([],[]) hi,Option.bind_some,aS (n:=l.length) (by omega) hi]
   cases (l.getD i ([],[])).1==nm <;> rfl)
  (by unfold fW; rw [aQ (by omega)]; rfl) with ⟨h1,h2⟩ | ⟨i,h1,h2,h3,h4⟩
 ·left
  rw [h2]
  exact ⟨rfl,fun j hj=>by have:=h1 j hj; simpa using this⟩
 ·right
  rw [h4]
  exact ⟨i,rfl,h1,by simpa using h3,fun j hj=>by have:=h2 j hj; simpa using this⟩
theorem pW (l:List gC) (hl:l.length≤1048576) (nm:gC) : ∃ r,bD l nm=some r∧-1≤r∧r<l.length∧(r<0→nm∉l):=by
 unfold bD
 rcases JQ (f:=fD l nm) l [] (fun x=>x==nm) hl
  (fun i hi=>by
   unfold fD
   simp only [aE (show (i:Int)<(l.length:Int) by omega),cond_true,aD [] hi,Option.bind_some,aS (n:=l.length) (by omega) hi]
   cases l.getD i []==nm <;> rfl)
  (by unfold fD; rw [aQ (by omega)]; rfl) with ⟨h1,h2⟩ | ⟨i,h1,h2,h3,h4⟩
 ·rw [h2]
  refine ⟨-1,rfl,by omega,by omega,fun _ hm=>?_⟩
  obtain ⟨j,hj,rfl⟩:=List.mem_iff_getElem.1 hm
  have:=h1 j hj
  simp [hj] at this
 ·rw [h4]
  exact ⟨i,rfl,by omega,by omega,fun h=>by omega⟩
theorem yT (l:List gC) (hl:l.length≤1048576) (w:gC) : ∃ b,ee l w=some b∧(b=true↔w∈l):=by
 unfold ee
 rcases dH (f:=gQ l w) l.length (by omega) (fun i=>(l.getD i []==w)=false) (fun i=>true)
  (fun i hi _=>by
   unfold gQ
   simp only [aE (show (i:Int)<(l.length:Int) by omega),cond_true,aD [] hi,Option.bind_some,aS (n:=l.length) (by omega) hi]
   cases l.getD i []==w
   ·left; exact ⟨rfl,rfl⟩
   ·right; exact ⟨by simp,rfl⟩)
  (fun _=>by unfold gQ; rw [aQ (by omega)]; rfl) with ⟨h1,h2⟩ | ⟨i,h1,h2,h3,h4⟩
 ·rw [h2]
  refine ⟨false,rfl,fun h=>(by cases h),fun hm=>?_⟩
  obtain ⟨j,hj,rfl⟩:=List.mem_iff_getElem.1 hm
  have:=h1 j hj
  simp [hj] at this
 ·rw [h4]
  refine ⟨true,rfl,fun _=>?_,fun _=>rfl⟩
  have:l.getD i []=w:=by simpa using h3
  rw [← this]
  exact getD_mem' [] h1
where getD_mem' {α:Type} {xs:List α} {i:Nat} (d:α) (h:i<xs.length):xs.getD i d∈xs:=by simp [h]
theorem Ku {f:Int→Option (Int⊕Int)} (n:Nat) (hn:n≤1048576) (p:Nat→Bool)
  (hstep : ∀ i,i<n→f ((i+1:Nat):Int)=some (bif p i then .inl (i:Int) else .inr ((i+1:Nat):Int))) (h0:f 0=some (.inr 0)) : ∃ k:Nat,k≤n∧Itr.it f (n:Int)=some (k:Int):=by
 obtain ⟨r,h1,h2⟩:=fk (f:=f) (fun s=>s.toNat) (fun s=>∃ i:Nat,s=(i:Int)∧i≤n) (fun r=>∃ k:Nat,k≤n∧r=(k:Int))
  (fun s hs=>by
   obtain ⟨i,rfl,hi⟩:=hs
   cases i with
   | zero=>exact .inl ⟨0,h0,0,by omega,rfl⟩
   | succ i=>
    have:=hstep i (by omega)
    cases hp:p i
    ·rw [hp] at this
     exact .inl ⟨_,this,i+1,hi,rfl⟩
    ·rw [hp] at this
     exact .inr ⟨_,this,⟨i,rfl,by omega⟩,by simp⟩) (s:=(n:Int)) ⟨n,rfl,by omega⟩ (by simp; omega)
 obtain ⟨k,h3,rfl⟩:=h2
 exact ⟨k,h3,h1⟩
theorem PO (l:List gC) (hl:l.length<1048576) (w:gC) : ∃ r,jb l w=some r∧(∀ y,y∈r↔y∈l∨y=w)∧r.length≤l.length+1:=by
 unfold jb
 obtain ⟨b,hb,hb2⟩:=yT l (by omega) w
 rw [hb]
 cases b
 ·simp only [Option.bind_some,cond_false]
  obtain ⟨k,hk,he⟩:=Ku (f:=gF l w) l.length (by omega) (fun i=>Op.bytesLess w (l.getD i []))
   (fun i hi=>by
    unfold gF
    have e:ad (((i+1:Nat):Int) - 1)=(i:Int):=by rw [bi (by omega) (by omega)]; omega
    simp only [aE (show (0:Int)<((i+1:Nat):Int) by omega),cond_true,e,aD [] hi,Option.bind_some]
    cases Op.bytesLess w (l.getD i []) <;> rfl)
   (by unfold gF; rfl)
  rw [he]
  simp only [Option.bind_some,ah]
  have c1:decide (0≤(0:Int)∧(0:Int)≤(k:Int)∧(k:Int)≤l.length)=true:=aE ⟨by omega,by omega,by omega⟩
  have c2:decide (0≤(k:Int)∧(k:Int)≤(l.length:Int)∧(l.length:Int)≤l.length)=true:=aE ⟨by omega,by omega,by omega⟩
  have a1 : ∀ m n:Nat,m+n≤2097152→aH m n 16=true:=fun m n h=>be (by omega) (by omega)
  rw [c1,c2]
  simp only [cond_true,Int.toNat_natCast,List.nil_append,Int.toNat_zero,List.drop_zero]
  rw [a1 _ _ (by simp only [List.length_nil,List.length_take]; omega),a1 _ _ (by simp only [List.length_singleton,List.length_take]; omega),a1 _ _ (by simp only [List.length_append,List.length_singleton,List.length_take,List.length_drop]; omega)]
  refine ⟨_,rfl,fun y=>?_,by simp only [List.length_append,List.length_singleton,List.length_take,List.length_drop]; omega⟩
  rw [List.take_length]
  constructor
  ·intro h
   rcases List.mem_append.1 h with h | h
   ·rcases List.mem_append.1 h with h | h
    ·exact .inl (List.mem_of_mem_take h)
    ·exact .inr (by simpa using h)
   ·exact .inl (List.mem_of_mem_drop h)
  ·intro h
   rcases h with h | h
   ·rw [← List.take_append_drop k l] at h
    rcases List.mem_append.1 h with h | h
    ·exact List.mem_append.2 (.inl (List.mem_append.2 (.inl h)))
    ·exact List.mem_append.2 (.inr h)
   ·exact List.mem_append.2 (.inl (List.mem_append.2 (.inr (by simp [h]))))
 ·exact ⟨l,rfl,fun y=>⟨.inl,fun h=>h.elim id fun h=>h ▸ hb2.1 rfl⟩,by omega⟩
theorem JZ (l:List (gC×Int)) (hl:l.length<1048576) (w:gC×Int) : ∃ r,iX l w=some r∧r.length=l.length+1:=by
 unfold iX
 obtain ⟨k,hk,he⟩:=Ku (f:=gH l w) l.length (by omega) (fun i=>!(Op.bytesLess (l.getD i ([],0)).1 w.1||(l.getD i ([],0)).1==w.1))
  (fun i hi=>by
   unfold gH
   have e:ad (((i+1:Nat):Int) - 1)=(i:Int):=by rw [bi (by omega) (by omega)]; omega
   simp only [aE (show (0:Int)<((i+1:Nat):Int) by omega),cond_true,e,aD ([],0) hi,Option.bind_some]
   cases (Op.bytesLess (l.getD i ([],0)).1 w.1||(l.getD i ([],0)).1==w.1) <;> rfl)
  (by unfold gH; rfl)
 rw [he]
 simp only [Option.bind_some,ah]
 have c1:decide (0≤(0:Int)∧(0:Int)≤(k:Int)∧(k:Int)≤l.length)=true:=aE ⟨by omega,by omega,by omega⟩
 have c2:decide (0≤(k:Int)∧(k:Int)≤(l.length:Int)∧(l.length:Int)≤l.length)=true:=aE ⟨by omega,by omega,by omega⟩
 have a1 : ∀ m n:Nat,m+n≤2097152→aH m n 24=true:=fun m n h=>be (by omega) (by omega)
 rw [c1,c2]
 simp only [cond_true,Int.toNat_natCast,List.nil_append,Int.toNat_zero,List.drop_zero]
 rw [a1 _ _ (by simp only [List.length_nil,List.length_take]; omega),a1 _ _ (by simp only [List.length_singleton,List.length_take]; omega),a1 _ _ (by simp only [List.length_append,List.length_singleton,List.length_take,List.length_drop]; omega)]
 exact ⟨_,rfl,by simp only [List.length_append,List.length_singleton,List.length_take,List.length_drop]; omega⟩
theorem B8 (n:ax) (hn:n.2.2.2.length≤1048576) : ∃ r,eV n=some r∧r.length≤n.2.2.2.length:=by
 unfold eV
 obtain ⟨r,h1,h2⟩:=fk (f:=iB n) (fun s=>n.2.2.2.length - s.2.toNat) (fun s=>∃ i:Nat,s.2=(i:Int)∧i≤n.2.2.2.length∧s.1.length≤i) (fun r=>r.length≤n.2.2.2.length)
  (fun s hs=>by
   obtain ⟨o,s2⟩:=s
   obtain ⟨i,hi1,hi,ho⟩:=hs
   dsimp only at hi1 ho
   subst hi1
   unfold iB
   rcases Nat.lt_or_ge i n.2.2.2.length with hlt | hge
   ·right
    simp only [aE (show (i:Int)<(n.2.2.2.length:Int) by omega),cond_true,aD (Nd.mk 0 [] 0 []) hlt,Option.bind_some,aS (n:=n.2.2.2.length) (by omega) hlt]
    cases hb:(n.2.2.2.getD i (Nd.mk 0 [] 0 [])).tup.1==7
    ·exact ⟨_,rfl,⟨i+1,rfl,by omega,by dsimp only; omega⟩,by dsimp only; omega⟩
    ·simp only [cond_true]
     rw [d8 (be (by simp only [List.length_singleton]; omega) (by omega))]
     exact ⟨_,rfl,⟨i+1,rfl,by omega,by simp only [List.length_append,List.length_singleton]; omega⟩,by dsimp only; omega⟩
   ·left
    simp only [aQ (show ¬ (i:Int)<(n.2.2.2.length:Int) by omega),cond_false]
    exact ⟨_,rfl,by omega⟩) (s:=([],0)) ⟨0,rfl,by omega,by simp⟩ (by show n.2.2.2.length - (0:Int).toNat<_; omega)
 rw [h1]
 exact ⟨r,rfl,h2⟩
open Go.Sm
set_option linter.unusedSimpArgs false
set_option linter.unusedVariables false
set_option linter.unusedSectionVars false
set_option maxRecDepth 4000
abbrev Mk:Type:=az
abbrev Tn:Type:=ax
def Gw (b:Nat) (m m' : Mk):Prop:=m'.1.2=m.1.2∧m.1.1.length≤m'.1.1.length∧m'.1.1.length≤m.1.1.length+b∧m'.2.1.length≤m.2.1.length+b
def mE (m:Mk) (b:Nat):Prop:=m.1.1.length+b≤1000000∧m.2.1.length+b≤1000000∧m.1.2.2.2.1.length≤1000000∧m.1.2.2.2.2.1.length≤1000000∧m.1.2.2.2.2.2.1.length≤1000000∧m.1.2.2.2.2.2.2.1.length≤1000000∧m.1.2.2.2.2.2.2.2.length≤1000000
theorem qK (m:Mk):Gw 0 m m:=⟨rfl,by omega,by omega,by omega⟩
theorem ii {a b c:Nat} {m n o:Mk} (h:Gw a m n) (h' : Gw b n o) (hc:a+b=c):Gw c m o:=by
  obtain ⟨a1,a2,a3,a4⟩:=h
  obtain ⟨b1,b2,b3,b4⟩:=h'
  exact ⟨b1.trans a1,by omega,by omega,by omega⟩
theorem DR {a b:Nat} {m n:Mk} (h:Gw a m n) (hc:a≤b):Gw b m n:=⟨h.1,h.2.1,by have:=h.2.2.1; omega,by have:=h.2.2.2; omega⟩
theorem gX {a b c:Nat} {m n:Mk} (h:mE m c) (g:Gw a m n) (hc:a+b≤c):mE n b:=by
  obtain ⟨h1,h2,h3⟩:=h
  obtain ⟨a1,a2,a3,a4⟩:=g
  refine ⟨by omega,by omega,?_⟩
  rw [a1]
  exact h3
theorem oP {b c:Nat} {m:Mk} (h:mE m c) (hc:b≤c):mE m b:=gX h (qK m) (by omega)
theorem kr {m:Mk} (h:mE m 1) (a b c:Int) : ∃ m',ay m a b c=some m' ∧ Gw 1 m m' ∧ m'.1.1.length=m.1.1.length+1:=by
  unfold ay
  rw [d8 (be (by have:=h.1; simp only [List.length_singleton]; omega) (by omega))]
  exact ⟨_,rfl,⟨rfl,by simp,by simp,by simp⟩,by simp⟩
theorem oQ {m:Mk} (h:mE m 1) (s:gC) : ∃ r m',bO m s=some (r,m')∧Gw 1 m m' := by
  unfold bO
  have h2:=h.2.1
  obtain ⟨r,hr,hr1,hr2,hr3⟩:=pW m.2.1 (by omega) s
  rw [hr]
  simp only [Option.bind_some]
  by_cases hz:r<0
  · rw [aE hz,cond_true,d8 (be (by simp only [List.length_singleton]; omega) (by omega))]
    simp only [Option.bind_some]
    obtain ⟨q,hq,_⟩:=pW (m.2.1++[s]) (by simp only [List.length_append,List.length_singleton]; omega) s
    rw [hq]
    exact ⟨_,_,rfl,⟨rfl,by simp,by simp,by simp⟩⟩
  · rw [aQ hz,cond_false]
    simp only [Option.bind_some]
    rw [hr]
    exact ⟨_,_,rfl,⟨rfl,by simp,by simp,by simp⟩⟩
theorem rU (l:List (gC×Int)) (h:l.length≤1000000):cJ l=some (l.map (·.1)):=n5 l (by omega)
theorem tf {a:Nd} {r:List Nd}:ac (a::r) (0:Int)=some a:=rfl
theorem Rs {a b:Nd} {r:List Nd}:ac (a::b::r) (1:Int)=some b:=rfl
theorem aeV {a b c:Nd} {r:List Nd}:ac (a::b::c::r) (2:Int)=some c:=rfl
def mt:Nat→Tn→Option Nat
  | 0,_=>none
  | k+1,n=>
    if n.1=32 then some 1 else if n.1=33 then some 2 else if n.1=34 then some 1 else if n.1=35 then some 1 else if n.1=36 then some 1
    else if 26≤n.1∧n.1≤31 then (match n.2.2.2 with
      | a::b::_=>(mt k a.tup).bind fun x=>(mt k b.tup).bind fun y=>some (x+y+1)
      | _=>none)
    else none
theorem FR : ∀ (k:Nat) (m:Mk) (n:Tn) (b:Nat),mt k n=some b→mE m b→∃ m',cu k m n=some m' ∧ Gw b m m' := by
  intro k
  induction k with
  | zero=>intro m n b h; cases h
  | succ k ih=>
    intro m n b h hr
    obtain ⟨kind,t,num,kids⟩:=n
    unfold mt at h
    dsimp only at h
    show ∃ m',gi (cu k) m (kind,t,num,kids)=some m' ∧ Gw b m m'
    unfold gi
    dsimp only
    by_cases h32:kind=32
    · rw [if_pos h32] at h
      cases h
      obtain ⟨m',h1,h2,_⟩:=kr hr 0 num 0
      rw [bt h32,cond_true,h1]
      exact ⟨m',rfl,h2⟩
    rw [if_neg h32] at h
    rw [bf h32,cond_false]
    by_cases h33:kind=33
    · rw [if_pos h33] at h
      cases h
      obtain ⟨r,m1,h1,h2⟩:=oQ (oP hr (by omega)) t
      obtain ⟨m',h3,h4,_⟩:=kr (gX hr h2 (by omega)) 1 r 0
      rw [bt h33,cond_true,h1]
      simp only [Option.bind_some,h3]
      exact ⟨m',rfl,ii h2 h4 rfl⟩
    rw [if_neg h33] at h
    rw [bf h33,cond_false]
    have hget : ∃ m',((cJ m.1.2.2.2.1).bind fun r5=>(bD r5 t).bind fun r6=>(ay m 16 r6 0).bind fun r7=>some r7)=some m' ∧ (1≤b→Gw 1 m m'):=by
      rw [rU _ hr.2.2.1]
      simp only [Option.bind_some]
      obtain ⟨r,hr1,_⟩:=pW (m.1.2.2.2.1.map (·.1)) (by have:=hr.2.2.1; simp only [List.length_map]; omega) t
      rw [hr1]
      simp only [Option.bind_some]
      by_cases hb:1≤b
      · obtain ⟨m',h3,h4,_⟩:=kr (oP hr hb) 16 r 0
        rw [h3]
        exact ⟨m',rfl,fun _=>h4⟩
      · unfold ay
        rw [d8 (be (by have:=hr.1; simp only [List.length_singleton]; omega) (by omega))]
        exact ⟨_,rfl,fun h=>absurd h hb⟩
    obtain ⟨mg,hg1,hg2⟩:=hget
    by_cases h34:kind=34
    · rw [if_pos h34] at h
      cases h
      rw [bt h34]
      simp only [cond_true,Option.bind_some,hg1]
      exact ⟨mg,rfl,hg2 (by omega)⟩
    rw [if_neg h34] at h
    rw [bf h34]
    simp only [cond_false,Option.bind_some]
    by_cases h35:kind=35
    · rw [if_pos h35] at h
      cases h
      rw [bt h35]
      simp only [cond_true,hg1]
      exact ⟨mg,rfl,hg2 (by omega)⟩
    rw [if_neg h35] at h
    rw [bf h35]
    simp only [cond_false]
    by_cases h36:kind=36
    · rw [if_pos h36] at h
      cases h
      obtain ⟨m',h1,h2,_⟩:=kr hr 3 0 0
      rw [bt h36,cond_true,h1]
      exact ⟨m',rfl,h2⟩
    rw [if_neg h36] at h
    rw [bf h36]
    simp only [cond_false]
    by_cases hk:26≤kind∧kind≤31
    rotate_left
    · rw [if_neg hk] at h; cases h
    rw [if_pos hk] at h
    rcases kids with _ | ⟨x,_ | ⟨y,r⟩⟩
    · cases h
    · cases h
    dsimp only at h
    cases hx:mt k x.tup with
    | none=>rw [hx] at h; cases h
    | some bx=>
    cases hy:mt k y.tup with
    | none=>rw [hx,hy] at h; cases h
    | some bY=>
    rw [hx,hy] at h
    cases h
    obtain ⟨m1,h1,h2⟩:=ih m x.tup bx hx (oP hr (by omega))
    obtain ⟨m2,h3,h4⟩:=ih m1 y.tup bY hy (gX hr h2 (by omega))
    have g12:=ii h2 h4 rfl
    simp only [tf,Rs,Option.bind_some]
    rw [show cu k m (x.tup.1,x.tup.2.1,x.tup.2.2.1,x.tup.2.2.2)=some m1 from h1]
    simp only [Option.bind_some]
    rw [show cu k m1 (y.tup.1,y.tup.2.1,y.tup.2.2.1,y.tup.2.2.2)=some m2 from h3]
    simp only [Option.bind_some]
    have ei : ∃ v,ac ([7,8,9,4,5,6]:List Int) (ad (kind - 26))=some v:=by
      rw [bi (by omega) (by omega)]
      exact ⟨_,bu 0 (by omega) (by show kind - 26<((6:Nat):Int); omega)⟩
    obtain ⟨v,hv⟩:=ei
    obtain ⟨m3,h5,h6,_⟩:=kr (gX hr g12 (by omega)) v 0 0
    simp only [hv,Option.bind_some,h5]
    exact ⟨m3,rfl,ii g12 h6 rfl⟩
def oR (f:Tn→Option Nat):List Nd→Option Nat
  | []=>some 0
  | x::r=>(f x.tup).bind fun a=>(oR f r).bind fun b=>some (a+b)
def qx (kb:Tn→Option Nat) (n:Tn):Option Nat:=
  if n.1=9 then (match n.2.2.2 with | a::_=>(mt 64 a.tup).bind fun x=>some (x+2) | _=>none)
  else if n.1=10 then (match n.2.2.2 with | _::a::_=>(mt 64 a.tup).bind fun x=>some (x+1) | _=>none)
  else if n.1=11∨n.1=12 then (match n.2.2.2 with
    | [a,b]=>(mt 64 a.tup).bind fun x=>(kb b.tup).bind fun y=>some (x+y+3)
    | [a,b,c]=>(mt 64 a.tup).bind fun x=>(kb b.tup).bind fun y=>(kb c.tup).bind fun z=>some (x+y+z+3)
    | _=>none)
  else if n.1=15∨n.1=22∨n.1=24 then (match n.2.2.2 with | a::_=>(mt 64 a.tup).bind fun x=>some (x+1) | _=>none)
  else if n.1=16∨n.1=23 then (match n.2.2.2 with | _::_=>some 2 | _=>none)
  else some 2
def wI:Nat→Tn→Option Nat
  | 0,_=>none
  | k+1,n=>oR (qx (wI k)) n.2.2.2
def pp:Nat→Tn→Option Nat
  | 0,_=>none
  | k+1,n=>(oR (pp k) n.2.2.2).bind fun x=>some (x+1)
def ky (n:Int) (m:Mk):Gn:=(n,m.1.1,m.1.2.1,m.1.2.2.1,m.1.2.2.2.1,m.1.2.2.2.2.1,m.1.2.2.2.2.2.1,m.1.2.2.2.2.2.2.1,m.1.2.2.2.2.2.2.2,m.2)
theorem IX {f:Gn→Option (Gn⊕Mk)} (kids:List Nd) (hk:kids.length≤1048576) (cost:Tn→Option Nat) (step:Mk→Tn→Option Mk) (hs : ∀ m n b,cost n=some b→mE m b→∃ m',step m n=some m' ∧ Gw b m m')
    (hstep : ∀ (i:Nat) (m m' : Mk),i<kids.length→step m (kids.getD i (Nd.mk 0 [] 0 [])).tup=some m' → f (ky (i:Int) m)=some (.inl (ky ((i:Int)+1) m'))) (hend : ∀ m,f (ky (kids.length:Int) m)=some (.inr m))
    {m:Mk} {b:Nat} (hb:oR cost kids=some b) (hr:mE m b) : ∃ m',Itr.it f (ky 0 m)=some m' ∧ Gw b m m' := by
  obtain ⟨r,h1,h2⟩:=fk (f:=f) (fun s=>kids.length - s.1.toNat) (fun s=>∃ (i:Nat) (m1:Mk) (a rb:Nat),s=ky (i:Int) m1∧i≤kids.length∧Gw a m m1∧oR cost (kids.drop i)=some rb∧a+rb=b) (fun r=>Gw b m r)
    (fun s hs' => by
      obtain ⟨i,m1,a,rb,rfl,hi,hg,hsum,hab⟩:=hs'
      rcases Nat.lt_or_ge i kids.length with hlt | hge
      · right
        rw [List.drop_eq_getElem_cons hlt] at hsum
        unfold oR at hsum
        cases hc:cost kids[i].tup with
        | none=>rw [hc] at hsum; cases hsum
        | some x=>
        cases hd:oR cost (kids.drop (i+1)) with
        | none=>rw [hc,hd] at hsum; cases hsum
        | some y=>
        rw [hc,hd] at hsum
        cases hsum
        obtain ⟨m2,h3,h4⟩:=hs m1 _ x hc (gX hr hg (by omega))
        have he:=hstep i m1 m2 hlt (by rw [show kids.getD i (Nd.mk 0 [] 0 [])=kids[i] by simp [hlt]]; exact h3)
        exact ⟨_,he,⟨i+1,m2,a+x,y,rfl,by omega,ii hg h4 rfl,hd,by omega⟩,by show kids.length - ((i:Int)+1).toNat<kids.length - (i:Int).toNat; omega⟩
      · left
        have:i=kids.length:=by omega
        subst this
        refine ⟨m1,hend m1,?_⟩
        rw [List.drop_length] at hsum
        cases hsum
        exact DR hg (by omega)) (s:=ky 0 m) ⟨0,m,0,b,rfl,by omega,qK m,hb,by omega⟩ (by show kids.length - (0:Int).toNat<_; omega)
  exact ⟨r,h1,h2⟩
theorem yM {f:Tn→Option Nat} (hf : ∀ n b,f n=some b→1≤b) : ∀ {l:List Nd} {b:Nat},oR f l=some b→l.length≤b
  | [],_,_=>by simp
  | x::r,b,h=>by
    unfold oR at h
    cases hc:f x.tup with
    | none=>rw [hc] at h; cases h
    | some a=>
    cases hd:oR f r with
    | none=>rw [hc,hd] at h; cases h
    | some y=>
    rw [hc,hd] at h
    cases h
    have h1:=hf _ _ hc
    have h2:=yM hf hd
    simp only [List.length_cons]
    omega
theorem O4 {k:Nat} {n:Tn} {b:Nat} (h:pp k n=some b):1≤b:=by
  cases k with
  | zero=>cases h
  | succ k=>
    unfold pp at h
    cases hs:oR (pp k) n.2.2.2 with
    | none=>rw [hs] at h; cases h
    | some x=>rw [hs] at h; cases h; omega
theorem qJ : ∀ (k:Nat) (m:Mk) (n:Tn) (b:Nat),pp k n=some b→mE m b→∃ m',bZ k m n=some m' ∧ Gw b m m' := by
  intro k
  induction k with
  | zero=>intro m n b h; cases h
  | succ k ih=>
    intro m n b h hr
    unfold pp at h
    cases hs:oR (pp k) n.2.2.2 with
    | none=>rw [hs] at h; cases h
    | some x=>
    rw [hs] at h
    cases h
    have hlen:=yM (fun n b h=>O4 h) hs
    have hr1:=hr.1
    show ∃ m',gB (bZ k) m n=some m' ∧ Gw (x+1) m m'
    unfold gB
    have loop : ∀ m1:Mk,mE m1 x→∃ m',Itr.it (eA (bZ k) n) (ky 0 m1)=some m' ∧ Gw x m1 m' := fun m1 hm1=>
      IX n.2.2.2 (by omega) (pp k) (bZ k) ih
        (fun i m m' hi he=>by
          unfold eA
          simp only [ky,show (i:Int)<(n.2.2.2.length:Int) by omega,decide_true,cond_true,aD (Nd.mk 0 [] 0 []) hi,Option.bind_some]
          rw [show bZ k _ _=some m' from he]
          simp only [Option.bind_some,aS (n:=n.2.2.2.length) (by omega) hi])
        (fun m=>by
          unfold eA
          simp only [ky,Int.lt_irrefl,decide_false,cond_false]) hs hm1
    cases hk:(bif bif bif n.1==9 then true else n.1==33 then true else n.1==19 then true else n.1==20)
    · simp only [cond_false,Option.bind_some]
      obtain ⟨m',h1,h2⟩:=loop m (oP hr (by omega))
      exact ⟨m',h1,DR h2 (by omega)⟩
    · obtain ⟨r,m1,h1,h2⟩:=oQ (oP hr (by omega)) n.2.1
      simp only [cond_true,h1,Option.bind_some]
      obtain ⟨m',h3,h4⟩:=loop m1 (gX hr h2 (by omega))
      exact ⟨m',h3,ii h2 h4 (by omega)⟩
theorem Bz {kb:Tn→Option Nat} {n:Tn} {b:Nat} (h:qx kb n=some b):1≤b:=by
  obtain ⟨kind,t,num,kids⟩:=n
  unfold qx at h
  dsimp only at h
  repeat' split at h
  all_goals first
    | (cases h; done)
    | (cases h; omega)
    | (simp only [Option.bind_eq_some_iff,Option.some.injEq] at h
       obtain ⟨x,_,h⟩:=h
       first
         | omega
         | (obtain ⟨y,_,h⟩:=h
            first
              | omega
              | (obtain ⟨z,_,h⟩:=h; omega)))
theorem OR (self:Mk→Tn→Option Mk) (m:Mk) (n:Tn):du self m n =
    (ac n.2.2.2 (0:Int)).bind fun _=>(ac n.2.2.2 (0:Int)).bind fun v2=>(bN m v2.tup).bind fun r3=>(ay r3 11 0 0).bind fun r4=>
    (ac n.2.2.2 (1:Int)).bind fun _=>(ac n.2.2.2 (1:Int)).bind fun v6=>(self r4 v6.tup).bind fun r7=>
    (bif n.1==(12:Int) then ay r7 10 (m.1.1.length:Int) 0 else some r7).bind fun m8=>
    bif decide ((n.2.2.2.length:Int)<(3:Int)) then
      (ac m8.1.1 (r3.1.1.length:Int)).bind fun _=>(ac m8.1.1 (r3.1.1.length:Int)).bind fun v11=>some ((m8.1.1.set (r3.1.1.length:Int).toNat (v11.1,((m8.1.1.length:Int),v11.2.2)),m8.1.2),m8.2)
    else
      (ay m8 10 0 0).bind fun r12=>(ac r12.1.1 (r3.1.1.length:Int)).bind fun _=>(ac r12.1.1 (r3.1.1.length:Int)).bind fun v14=>
      (ac n.2.2.2 (2:Int)).bind fun _=>(ac n.2.2.2 (2:Int)).bind fun v16=>
      (self ((r12.1.1.set (r3.1.1.length:Int).toNat (v14.1,((r12.1.1.length:Int),v14.2.2)),r12.1.2),r12.2) v16.tup).bind fun r17=>
      (ac r17.1.1 (m8.1.1.length:Int)).bind fun _=>(ac r17.1.1 (m8.1.1.length:Int)).bind fun v19=>some ((r17.1.1.set (m8.1.1.length:Int).toNat (v19.1,((r17.1.1.length:Int),v19.2.2)),r17.1.2),r17.2):=by
  unfold du
  dsimp only
  congr 1; funext _; congr 1; funext v2
  show (bN m v2.tup).bind _=_
  congr 1; funext r3; congr 1; funext r4; congr 1; funext _; congr 1; funext v6
  show (self r4 v6.tup).bind _=_
  congr 1; funext r7
  cases n.1==(12:Int)
  · rfl
  · simp only [cond_true]
    cases ay r7 10 (m.1.1.length:Int) 0
    · rfl
    · rfl
section
variable {self:Mk→Tn→Option Mk} {kb:Tn→Option Nat} (hself : ∀ m n b,kb n=some b→mE m b→∃ m',self m n=some m' ∧ Gw b m m')
include hself
theorem Pn {m:Mk} {n:Tn} {b:Nat} (hk:n.1=11∨n.1=12) (h:qx kb n=some b) (hr:mE m b) : ∃ m',du self m n=some m' ∧ Gw b m m' := by
  obtain ⟨kind,t,num,kids⟩:=n
  dsimp only at hk
  unfold qx at h
  dsimp only at h
  rw [if_neg (by omega),if_neg (by omega),if_pos hk] at h
  have main : ∀ (x y:Nd) (rest:List Nd) (bx bY bz:Nat),kids=x::y::rest→mt 64 x.tup=some bx→kb y.tup=some bY→bx+bY+bz+3≤b→(rest=[]∨∃ z,rest=[z]∧kb z.tup=some bz)→∃ m',du self m (kind,t,num,kids)=some m' ∧ Gw b m m' := by
    intro x y rest bx bY bz hkids hx hy hsum hrest
    subst hkids
    rw [OR]
    simp only [tf,Rs,Option.bind_some]
    obtain ⟨m1,h1,g1⟩:=FR 64 m x.tup bx hx (oP hr (by omega))
    rw [show bN m x.tup=some m1 from h1]
    simp only [Option.bind_some]
    obtain ⟨m2,h2,g2,l2⟩:=kr (gX (b:=1) hr g1 (by omega)) 11 0 0
    rw [h2]
    simp only [Option.bind_some]
    have g12:=ii g1 g2 rfl
    obtain ⟨m3,h3,g3⟩:=hself m2 y.tup bY hy (gX hr g12 (by omega))
    rw [h3]
    simp only [Option.bind_some]
    have g13:=ii g12 g3 rfl
    have hs8 : ∃ m4,(bif kind==(12:Int) then ay m3 10 (m.1.1.length:Int) 0 else some m3)=some m4∧Gw 1 m3 m4:=by
      cases kind==(12:Int)
      · exact ⟨m3,rfl,DR (qK m3) (by omega)⟩
      · obtain ⟨m4,h4,g4,_⟩:=kr (gX (b:=1) hr g13 (by omega)) 10 (m.1.1.length:Int) 0
        exact ⟨m4,h4,g4⟩
    obtain ⟨m4,h4,g4⟩:=hs8
    rw [h4]
    simp only [Option.bind_some]
    have g14:=ii g13 g4 rfl
    have hz:m1.1.1.length<m4.1.1.length:=by have:=g3.2.1; have:=g4.2.1; omega
    rcases hrest with rfl | ⟨z,rfl,hz2⟩
    · rw [show decide (((([x,y]:List Nd).length:Nat):Int)<3)=true from rfl]
      simp only [cond_true,aD (0,0,0) hz,Option.bind_some]
      exact ⟨_,rfl,⟨g14.1,by have:=g14.2.1; simpa using this,by have:=g14.2.2.1; simp only [List.length_set]; omega,by have:=g14.2.2.2; dsimp only; omega⟩⟩
    · rw [show decide (((([x,y,z]:List Nd).length:Nat):Int)<3)=false from rfl]
      simp only [cond_false]
      obtain ⟨m5,h5,g5,l5⟩:=kr (gX (b:=1) hr g14 (by omega)) 10 0 0
      rw [h5]
      have hz5:m1.1.1.length<m5.1.1.length:=by omega
      simp only [Option.bind_some,aD (0,0,0) hz5,aeV]
      have g15:=ii g14 g5 rfl
      generalize hq:((m5.1.1.set (m1.1.1.length:Int).toNat ((m5.1.1.getD m1.1.1.length (0,0,0)).1,((m5.1.1.length:Int),(m5.1.1.getD m1.1.1.length (0,0,0)).2.2)),m5.1.2),m5.2)=m6
      have hq1:m6.1.1.length=m5.1.1.length:=by rw [← hq]; simp
      have hq2:m6.1.2=m5.1.2:=by rw [← hq]
      have hq3:m6.2=m5.2:=by rw [← hq]
      have g16:Gw (bx+1+bY+1+1) m m6:=⟨by rw [hq2]; exact g15.1,by rw [hq1]; exact g15.2.1,by rw [hq1]; have:=g15.2.2.1; omega,by rw [hq3]; have:=g15.2.2.2; omega⟩
      obtain ⟨m7,h7,g7⟩:=hself m6 z.tup bz hz2 (gX hr g16 (by omega))
      rw [h7]
      have hz7:m4.1.1.length<m7.1.1.length:=by have:=g7.2.1; omega
      simp only [Option.bind_some,aD (0,0,0) hz7]
      have g17:=ii g16 g7 rfl
      exact ⟨_,rfl,⟨g17.1,by have:=g17.2.1; simpa using this,by have:=g17.2.2.1; simp only [List.length_set]; omega,by have:=g17.2.2.2; dsimp only; omega⟩⟩
  rcases kids with _ | ⟨x,_ | ⟨y,_ | ⟨z,_ | ⟨u,r⟩⟩⟩⟩
  · cases h
  · cases h
  · dsimp only at h
    simp only [Option.bind_eq_some_iff,Option.some.injEq] at h
    obtain ⟨bx,hx,bY,hy,hb⟩:=h
    exact main x y [] bx bY 0 rfl hx hy (by omega) (.inl rfl)
  · dsimp only at h
    simp only [Option.bind_eq_some_iff,Option.some.injEq] at h
    obtain ⟨bx,hx,bY,hy,bz,hz,hb⟩:=h
    exact main x y [z] bx bY bz rfl hx hy (by omega) (.inr ⟨z,rfl,hz⟩)
  · cases h
theorem aah (m:Mk) (n:Tn) (b:Nat) (h:qx kb n=some b) (hr:mE m b) : ∃ m',cw self m n=some m' ∧ Gw b m m' := by
  by_cases hk:n.1=11∨n.1=12
  · obtain ⟨m',h1,h2⟩:=Pn hself hk h hr
    refine ⟨m',?_,h2⟩
    unfold cw
    dsimp only
    rw [rU _ hr.2.2.2.1]
    rcases hk with hk | hk <;> rw [hk] <;> simp only [Int.reduceBEq,cond_true,cond_false,Option.bind_some,h1]
  have hb:=Bz h
  obtain ⟨kind,t,num,kids⟩:=n
  dsimp only at hk
  unfold qx at h
  dsimp only at h
  unfold cw
  dsimp only
  rw [rU _ hr.2.2.2.1]
  simp only [Option.bind_some]
  have emit2 : ∀ (m1:Mk) (a:Nat) (x y z:Int),Gw a m m1→a+1≤b→∃ m',ay m1 x y z=some m' ∧ Gw b m m' := fun m1 a x y z g hab=>by
    obtain ⟨m',h3,h4,_⟩:=kr (gX (b:=1) hr g hab) x y z
    exact ⟨m',h3,DR (ii g h4 rfl) hab⟩
  have val : ∀ (x:Nd) (bx:Nat),mt 64 x.tup=some bx→bx≤b→∃ m',bN m (x.tup.1,x.tup.2.1,x.tup.2.2.1,x.tup.2.2.2)=some m' ∧ Gw bx m m' := fun x bx hx hle=>FR 64 m x.tup bx hx (oP hr hle)
  have ix : ∀ l:List gC,l.length≤1000000→∃ r,bD l t=some r:=fun l hl=>by
    obtain ⟨r,hr,_⟩:=pW l (by omega) t
    exact ⟨r,hr⟩
  by_cases h9:kind=9
  · rw [if_pos h9] at h
    rcases kids with _ | ⟨x,r⟩
    · cases h
    simp only [Option.bind_eq_some_iff,Option.some.injEq] at h
    obtain ⟨bx,hx,hb'⟩:=h
    obtain ⟨m1,h1,g1⟩:=val x bx hx (by omega)
    obtain ⟨q,m2,h2,g2⟩:=oQ (gX (b:=1) hr g1 (by omega)) t
    obtain ⟨m3,h3,g3⟩:=emit2 m2 (bx+1) 2 q 0 (ii g1 g2 rfl) (by omega)
    rw [bt h9]
    simp only [cond_true,tf,Option.bind_some,h1,h2,h3]
    exact ⟨m3,rfl,g3⟩
  rw [if_neg h9] at h
  rw [bf h9,cond_false]
  by_cases h10:kind=10
  · rw [if_pos h10] at h
    rcases kids with _ | ⟨p,_ | ⟨x,r⟩⟩
    · cases h
    · cases h
    simp only [Option.bind_eq_some_iff,Option.some.injEq] at h
    obtain ⟨bx,hx,hb'⟩:=h
    obtain ⟨m1,h1,g1⟩:=val x bx hx (by omega)
    have hrm:=gX (b:=1) hr g1 (by omega)
    obtain ⟨q,hq,_⟩:=pW (m1.1.2.2.2.1.map (·.1)) (by have:=hrm.2.2.1; simp only [List.length_map]; omega) p.tup.2.1
    obtain ⟨m3,h3,g3⟩:=emit2 m1 bx 17 q 0 g1 (by omega)
    rw [bt h10]
    simp only [cond_true,tf,Rs,Option.bind_some,h1,rU _ hrm.2.2.1,hq,h3]
    exact ⟨m3,rfl,g3⟩
  rw [if_neg h10,if_neg hk] at h
  rw [bf h10,cond_false,show (kind==11)=false by simp only [beq_eq_false_iff_ne]; omega,show (kind==12)=false by simp only [beq_eq_false_iff_ne]; omega]
  simp only [cond_false,Option.bind_some]
  have simple : ∀ (l:List gC) (op:Int),l.length≤1000000→∃ m',((bD l t).bind fun r=>(ay m op r 0).bind fun r' => some r')=some m' ∧ Gw b m m' := fun l op hl=>by
    obtain ⟨q,hq⟩:=ix l hl
    obtain ⟨m3,h3,g3⟩:=emit2 m 0 op q 0 (qK m) (by omega)
    rw [hq]
    simp only [Option.bind_some,h3]
    exact ⟨m3,rfl,g3⟩
  obtain ⟨r1,r2,r3,r4,r5,r6,r7⟩:=hr
  by_cases h13:kind=13
  · rw [bt h13,cond_true]
    exact simple _ 18 r7
  rw [bf h13,cond_false]
  by_cases h14:kind=14
  · rw [bt h14,cond_true]
    exact simple _ 12 r7
  rw [bf h14,cond_false]
  by_cases h15:kind=15
  · rw [if_pos (.inl h15)] at h
    rcases kids with _ | ⟨x,r⟩
    · cases h
    simp only [Option.bind_eq_some_iff,Option.some.injEq] at h
    obtain ⟨bx,hx,hb'⟩:=h
    obtain ⟨m1,h1,g1⟩:=val x bx hx (by omega)
    obtain ⟨q,hq⟩:=ix (m.1.2.2.2.2.1.map (·.1)) (by simpa using r4)
    obtain ⟨m3,h3,g3⟩:=emit2 m1 bx 19 q 0 g1 (by omega)
    rw [bt h15]
    simp only [cond_true,tf,Option.bind_some,h1,hq,h3]
    exact ⟨m3,rfl,g3⟩
  rw [bf h15,cond_false]
  by_cases h16:kind=16
  · rw [if_neg (by omega),if_pos (.inl h16)] at h
    rcases kids with _ | ⟨x,r⟩
    · cases h
    cases h
    obtain ⟨q,hq⟩:=ix (m.1.2.2.2.2.1.map (·.1)) (by simpa using r4)
    obtain ⟨p,m2,h2,g2⟩:=oQ (m:=m) ⟨by omega,by omega,r3,r4,r5,r6,r7⟩ x.tup.2.1
    obtain ⟨m3,h3,g3⟩:=emit2 m2 1 20 q p g2 (by omega)
    rw [bt h16]
    simp only [cond_true,tf,Option.bind_some,hq,h2,h3]
    exact ⟨m3,rfl,g3⟩
  rw [bf h16,cond_false]
  by_cases h17:kind=17
  · rw [bt h17,cond_true]
    exact simple _ 21 r5
  rw [bf h17,cond_false]
  by_cases h18:kind=18
  · rw [bt h18,cond_true]
    exact simple _ 22 r5
  rw [bf h18,cond_false]
  have loc : ∀ (op:Int) (g:Int→Int×Int),2≤b→∃ m',((bO m t).bind fun r=>(ay r.2 op (g r.1).1 (g r.1).2).bind fun r' => some r')=some m' ∧ Gw b m m' := fun op g h2b=>by
    obtain ⟨p,m2,h2,g2⟩:=oQ (m:=m) ⟨by omega,by omega,r3,r4,r5,r6,r7⟩ t
    obtain ⟨m3,h3,g3⟩:=emit2 m2 1 op (g p).1 (g p).2 g2 (by omega)
    rw [h2]
    simp only [Option.bind_some,h3]
    exact ⟨m3,rfl,g3⟩
  by_cases h19:kind=19
  · rw [if_neg (by omega),if_neg (by omega)] at h
    cases h
    rw [bt h19,cond_true]
    exact loc 23 (fun r=>(num,r)) (by omega)
  rw [bf h19,cond_false]
  by_cases h20:kind=20
  · rw [if_neg (by omega),if_neg (by omega)] at h
    cases h
    rw [bt h20,cond_true]
    exact loc 24 (fun r=>(r,0)) (by omega)
  rw [bf h20,cond_false]
  by_cases h21:kind=21
  · obtain ⟨m3,h3,g3⟩:=emit2 m 0 25 num 0 (qK m) (by omega)
    rw [bt h21,cond_true,h3]
    exact ⟨m3,rfl,g3⟩
  rw [bf h21,cond_false]
  by_cases h22:kind=22
  · rw [if_pos (.inr (.inl h22))] at h
    rcases kids with _ | ⟨x,r⟩
    · cases h
    simp only [Option.bind_eq_some_iff,Option.some.injEq] at h
    obtain ⟨bx,hx,hb'⟩:=h
    obtain ⟨m1,h1,g1⟩:=val x bx hx (by omega)
    obtain ⟨q,hq⟩:=ix m1.1.2.2.2.2.2.2.1 (by rw [g1.1]; exact r6)
    obtain ⟨m3,h3,g3⟩:=emit2 m1 bx 26 q 0 g1 (by omega)
    rw [bt h22]
    simp only [cond_true,tf,Option.bind_some,h1,hq,h3]
    exact ⟨m3,rfl,g3⟩
  rw [bf h22,cond_false]
  by_cases h23:kind=23
  · rw [if_neg (by omega),if_pos (.inr h23)] at h
    rcases kids with _ | ⟨x,r⟩
    · cases h
    cases h
    obtain ⟨q,hq⟩:=ix m.1.2.2.2.2.2.2.1 r6
    obtain ⟨p,m2,h2,g2⟩:=oQ (m:=m) ⟨by omega,by omega,r3,r4,r5,r6,r7⟩ x.tup.2.1
    obtain ⟨m3,h3,g3⟩:=emit2 m2 1 27 q p g2 (by omega)
    rw [bt h23]
    simp only [cond_true,tf,Option.bind_some,hq,h2,h3]
    exact ⟨m3,rfl,g3⟩
  rw [bf h23,cond_false]
  by_cases h24:kind=24
  · rw [if_pos (.inr (.inr h24))] at h
    rcases kids with _ | ⟨x,r⟩
    · cases h
    simp only [Option.bind_eq_some_iff,Option.some.injEq] at h
    obtain ⟨bx,hx,hb'⟩:=h
    obtain ⟨m1,h1,g1⟩:=val x bx hx (by omega)
    obtain ⟨m3,h3,g3⟩:=emit2 m1 bx 14 m1.2.2 (ad ((m1.1.2.1.length:Int) - 1)) g1 (by omega)
    rw [bt h24]
    simp only [cond_true,tf,Option.bind_some,h1,h3]
    exact ⟨_,rfl,g3⟩
  rw [bf h24,cond_false]
  obtain ⟨m3,h3,g3⟩:=emit2 m 0 15 num 0 (qK m) (by omega)
  rw [h3]
  exact ⟨m3,rfl,g3⟩
end
theorem UD : ∀ (k:Nat) (m:Mk) (n:Tn) (b:Nat),wI k n=some b→mE m b→∃ m',bX k m n=some m' ∧ Gw b m m' := by
  intro k
  induction k with
  | zero=>intro m n b h; cases h
  | succ k ih=>
    intro m n b h hr
    have h' : oR (qx (wI k)) n.2.2.2=some b:=h
    have hlen:=yM (fun n b h=>Bz h) h'
    have hr1:=hr.1
    show ∃ m',gf (bX k) m n=some m' ∧ Gw b m m'
    unfold gf
    exact IX n.2.2.2 (by omega) (qx (wI k)) (cw (bX k)) (fun m n b h hr=>aah ih m n b h hr)
      (fun i m m' hi he=>by
        unfold fS
        simp only [ky,show (i:Int)<(n.2.2.2.length:Int) by omega,decide_true,cond_true,aD (Nd.mk 0 [] 0 []) hi,Option.bind_some]
        rw [show cw _ _ _=some m' from he]
        simp only [Option.bind_some,aS (n:=n.2.2.2.length) (by omega) hi])
      (fun m=>by
        unfold fS
        simp only [ky,Int.lt_irrefl,decide_false,cond_false]) h' hr
open Go.Sm
set_option linter.unusedSimpArgs false
set_option linter.unusedVariables false
set_option linter.unusedSectionVars false
set_option maxRecDepth 4000
structure GoodN (d:Df) (n:Tn) (u:List aW):Prop where
 parse:db d.2=some (n,0,0)
 name:n.2.1=d.1
 kids:n.2.2.2.length≤64
 len:n.2.1.length≤64
 lens : ∀ k∈n.2.2.2,k.tup.2.1.length≤64
 found:eE n=some u
 uses:u.length≤64
 proc:n.1=5∨n.1=6→∃ k r bm bb,n.2.2.2=k::r∧pp 64 n=some bm∧wI 64 k.tup=some bb∧bm≤200∧bb≤200
def mq (d:Df):Prop:=∃ n u,GoodN d n u
def C9 (d:Df):Bool:=match db d.2 with
 | some (n,a,e)=>a==0&&e==0&&n.2.1==d.1&&Nat.ble n.2.2.2.length 64&&Nat.ble n.2.1.length 64&&n.2.2.2.all (fun k=>Nat.ble k.tup.2.1.length 64) &&
  (match eE n with | some u=>Nat.ble u.length 64 | none=>false) &&
  (bif n.1==5||n.1==6 then (match n.2.2.2 with | k::_=>(match pp 64 n with | some b=>Nat.ble b 200 | none=>false)&&(match wI 64 k.tup with | some b=>Nat.ble b 200 | none=>false) | []=>false) else true)
 | none=>false
theorem IW {d:Df} (h:C9 d=true):mq d:=by
 unfold C9 at h
 split at h
 ·rename_i n a e hp
  simp only [Bool.and_eq_true] at h
  obtain ⟨⟨⟨⟨⟨⟨⟨h1,h2⟩,h3⟩,h4⟩,h5⟩,h6⟩,h7⟩,h8⟩:=h
  split at h7
  ·rename_i u hu
   refine ⟨n,u,?_,by simpa using h3,Nat.le_of_ble_eq_true h4,Nat.le_of_ble_eq_true h5,fun k hk=>?_,hu,Nat.le_of_ble_eq_true h7,fun hk=>?_⟩
   ·rw [hp,show a=0 by simpa using h1,show e=0 by simpa using h2]
   ·exact Nat.le_of_ble_eq_true (List.all_eq_true.1 h6 k hk)
   ·rw [show (n.1==5||n.1==6)=true by rcases hk with hk | hk <;> simp [hk]] at h8
    simp only [cond_true] at h8
    split at h8
    ·rename_i k r hkids
     simp only [Bool.and_eq_true] at h8
     obtain ⟨g1,g2⟩:=h8
     split at g1
     ·rename_i bm hbm
      split at g2
      ·rename_i bb hbb
       exact ⟨k,r,bm,bb,hkids,hbm,hbb,Nat.le_of_ble_eq_true g1,Nat.le_of_ble_eq_true g2⟩
      ·cases g2
     ·cases g1
    ·cases h8
  ·cases h7
 ·cases h
theorem tN {R:Type} {f:Int→Option (Int⊕R)} (n:Nat) (hn:n≤1048576) (hstep : ∀ i:Nat,i<n→(∃ r,f (i:Int)=some (.inr r))∨f (i:Int)=some (.inl ((i:Int)+1))) (hend : ∃ r,f (n:Int)=some (.inr r)) : ∃ r,Itr.it f (0:Int)=some r:=by
 obtain ⟨r,h1,_⟩:=fk (f:=f) (fun s=>n - s.toNat) (fun s=>∃ i:Nat,s=(i:Int)∧i≤n) (fun _=>True)
  (fun s hs=>by
   obtain ⟨i,rfl,hi⟩:=hs
   rcases Nat.lt_or_ge i n with hlt | hge
   ·rcases hstep i hlt with ⟨r,h⟩ | h
    ·exact .inl ⟨r,h,trivial⟩
    ·exact .inr ⟨_,h,⟨i+1,rfl,by omega⟩,by show n - ((i:Int)+1).toNat<n - (i:Int).toNat; omega⟩
   ·obtain ⟨r,h⟩:=hend
    rw [show i=n by omega]
    exact .inl ⟨r,h,trivial⟩) (s:=0) ⟨0,rfl,by omega⟩ (by show n - (0:Int).toNat<_; omega)
 exact ⟨r,h1⟩
section
variable (l:List Df) (hl:l.length≤24) (hg : ∀ d∈l,mq d)
include hl hg
theorem Us {i:Nat} (h:i<l.length) : ∃ n u,GoodN (l.getD i ([],[])) n u:=hg _ (by simp [h])
theorem uL (h0:0<l.length) (nm:gC) : ∃ r d,bB l nm=some r∧d∈l∧ac l (if (0:Int) > r then 0 else r)=some d:=by
 rcases rg l (by omega) nm with ⟨h1,_⟩ | ⟨i,h1,h2,h3,_⟩
 ·exact ⟨-1,l.getD 0 ([],[]),h1,by simp [h0],by rw [if_pos (by omega)]; exact aD _ h0⟩
 ·exact ⟨i,l.getD i ([],[]),h1,by simp [h2],by rw [if_neg (by omega)]; exact aD _ h2⟩
theorem xi {d:Df} (h:d∈l) : ∃ n u,GoodN d n u∧dZ d.2=some n:=by
 obtain ⟨n,u,h⟩:=hg d h
 refine ⟨n,u,h,?_⟩
 unfold dZ
 rw [h.parse]
 rfl
theorem yt {i:Nat} (hi:i<l.length) : ∃ e,fp l (i:Int)=some e∧(e=0→∀ j,j<i→(l.getD j ([],[])).1≠(l.getD i ([],[])).1):=by
 unfold fp
 obtain ⟨n,u,h⟩:=Us l hl hg hi
 simp only [aD ([],[]) hi,Option.bind_some,h.parse,h.name,beq_self_eq_true,Bool.not_true,cond_false]
 rw [show ((0:Int) != 0)=false from rfl]
 simp only [cond_false]
 obtain ⟨fr,hf,hf2⟩:=B8 n (by have:=h.kids; omega)
 have hk:=h.kids
 obtain ⟨z,hz⟩:=tN (f:=eG fr) fr.length (by omega)
  (fun k hk' => by
   unfold eG
   obtain ⟨b,hb,_⟩:=yT (fr.take k) (by simp only [List.length_take]; omega) (fr.getD k [])
   simp only [aE (show (k:Int)<(fr.length:Int) by omega),cond_true,aD [] hk',Option.bind_some,ah,aE (show 0≤(k:Int)∧(k:Int)≤(fr.length:Int) by omega),Int.toNat_natCast,hb,aS (n:=fr.length) (by omega) hk']
   cases b
   ·exact .inr rfl
   ·exact .inl ⟨_,rfl⟩)
  ⟨_,by unfold eG; rw [aQ (by omega)]; rfl⟩
 have hend : ∃ e,((eV n).bind fun r9=>(Itr.it (eG r9) 0).bind fun z15=>match z15 with | Sum.inl _=>some 0 | Sum.inr t16=>some t16)=some e:=by
  rw [hf]
  simp only [Option.bind_some,hz]
  rcases z with z | z <;> exact ⟨_,rfl⟩
 obtain ⟨e,he⟩:=hend
 rcases rg l (by omega) (l.getD i ([],[])).1 with ⟨h1,h2⟩ | ⟨k,h1,h2,h3,h4⟩
 ·exact absurd rfl (h2 i hi)
 ·rw [h1]
  simp only [Option.bind_some]
  by_cases hki:k<i
  ·rw [aE (by omega)]
   exact ⟨7,rfl,fun h=>(by cases h)⟩
  ·rw [aQ (by omega)]
   simp only [cond_false]
   exact ⟨e,he,fun _ j hj=>h4 j (by omega)⟩
theorem PE {i:Nat} (hi:i<l.length) : ∃ e,je l (i:Int)=some e:=by
 unfold je
 obtain ⟨n,u,h,ht⟩:=xi l hl hg (show l.getD i ([],[])∈l by simp [hi])
 simp only [aD ([],[]) hi,Option.bind_some,ht,h.found]
 have hu:=h.uses
 have h0:0<l.length:=by omega
 obtain ⟨z1,hz1⟩:=tN (f:=fB l u) u.length (by omega)
  (fun k hk=>by
   unfold fB
   obtain ⟨r,d,h1,h2,h3⟩:=uL l hl hg h0 (u.getD k (0,0,[],[])).2.2.1
   simp only [aE (show (k:Int)<(u.length:Int) by omega),cond_true,aD (0,0,[],[]) hk,Option.bind_some,h1,aS (n:=u.length) (by omega) hk]
   cases decide (r<0)
   ·exact .inr rfl
   ·exact .inl ⟨_,rfl⟩)
  ⟨_,by unfold fB; rw [aQ (by omega)]; rfl⟩
 obtain ⟨z2,hz2⟩:=tN (f:=fA l u) u.length (by omega)
  (fun k hk=>by
   unfold fA
   obtain ⟨r,d,h1,h2,h3⟩:=uL l hl hg h0 (u.getD k (0,0,[],[])).2.2.1
   obtain ⟨n',u',_,ht'⟩:=xi l hl hg h2
   simp only [aE (show (k:Int)<(u.length:Int) by omega),cond_true,aD (0,0,[],[]) hk,Option.bind_some,h1,h3,ht',aS (n:=u.length) (by omega) hk]
   cases n'.1 != (u.getD k (0,0,[],[])).2.1
   ·exact .inr rfl
   ·exact .inl ⟨_,rfl⟩)
  ⟨_,by unfold fA; rw [aQ (by omega)]; rfl⟩
 obtain ⟨z3,hz3⟩:=tN (f:=fy l u) u.length (by omega)
  (fun k hk=>by
   unfold fy
   obtain ⟨r,d,h1,h2,h3⟩:=uL l hl hg h0 (u.getD k (0,0,[],[])).2.2.1
   obtain ⟨n',u',g',ht'⟩:=xi l hl hg h2
   obtain ⟨fr,hf,hf2⟩:=B8 n' (by have:=g'.kids; omega)
   obtain ⟨b,hb,_⟩:=yT fr (by have:=g'.kids; omega) (u.getD k (0,0,[],[])).2.2.2
   simp only [aE (show (k:Int)<(u.length:Int) by omega),cond_true,aD (0,0,[],[]) hk,Option.bind_some,h1,h3,ht',aS (n:=u.length) (by omega) hk]
   cases (u.getD k (0,0,[],[])).2.1==1
   ·exact .inr rfl
   ·simp only [cond_true,hf,Option.bind_some,hb]
    cases b
    ·exact .inl ⟨_,rfl⟩
    ·exact .inr rfl)
  ⟨_,by unfold fy; rw [aQ (by omega)]; rfl⟩
 rw [hz1]
 rcases z1 with z1 | z1
 ·simp only [Option.bind_some,hz2]
  rcases z2 with z2 | z2
  ·simp only [Option.bind_some,hz3]
   rcases z3 with z3 | z3 <;> exact ⟨_,rfl⟩
  ·exact ⟨_,rfl⟩
 ·exact ⟨_,rfl⟩
end
def vU (d:Df):List gC:=match db d.2 with
 | some r=>(match eE r.1 with | some u=>u.map (·.2.2.1) | none=>[])
 | none=>[]
def w9 (l:List Df):List gC:=l.flatMap vU
def nI (W cq:List gC):Nat:=(W.filter fun w=>!decide (w∈cq)).length
theorem B3 {d:Df} {n:Tn} {u:List aW} (h:GoodN d n u):vU d=u.map (·.2.2.1):=by
 unfold vU
 rw [h.parse]
 dsimp only
 rw [h.found]
theorem IA {l:List Df} (hg : ∀ d∈l,mq d):(w9 l).length≤64 * l.length:=by
 induction l with
 | nil=>simp [w9]
 | cons d r ih=>
  obtain ⟨n,u,h⟩:=hg d (by simp)
  have h1:=ih fun d hd=>hg d (by simp [hd])
  have h2:(vU d).length≤64:=by rw [B3 h]; simpa using h.uses
  unfold w9 at h1 ⊢
  simp only [List.flatMap_cons,List.length_append,List.length_cons]
  omega
theorem OQ {W:List gC} {p q:gC→Bool} (h : ∀ y,q y=true→p y=true):(W.filter q).length≤(W.filter p).length:=by
 induction W with
 | nil=>simp
 | cons y r ih=>
  cases hq:q y
  ·rw [List.filter_cons_of_neg (by simp [hq])]
   cases hp:p y
   ·rw [List.filter_cons_of_neg (by simp [hp])]; exact ih
   ·rw [List.filter_cons_of_pos hp]; simp only [List.length_cons]; omega
  ·rw [List.filter_cons_of_pos hq,List.filter_cons_of_pos (h y hq)]
   simp only [List.length_cons]; omega
theorem OZ {W:List gC} {p q:gC→Bool} (h : ∀ y,q y=true→p y=true) {x:gC} (hx:x∈W) (hp:p x=true) (hq:q x=false):(W.filter q).length+1≤(W.filter p).length:=by
 induction W with
 | nil=>cases hx
 | cons y r ih=>
  rcases List.mem_cons.1 hx with rfl | hx
  ·rw [List.filter_cons_of_neg (by simp [hq]),List.filter_cons_of_pos hp]
   have:=OQ (W:=r) h
   simp only [List.length_cons]; omega
  ·have:=ih hx
   cases hq' : q y
   ·rw [List.filter_cons_of_neg (by simp [hq'])]
    cases hp' : p y
    ·rw [List.filter_cons_of_neg (by simp [hp'])]; exact this
    ·rw [List.filter_cons_of_pos hp']; simp only [List.length_cons]; omega
   ·rw [List.filter_cons_of_pos hq',List.filter_cons_of_pos (h y hq')]
    simp only [List.length_cons]; omega
theorem Zu {W cq r:List gC} {x:gC} (hx:x∈W) (ho:x∉cq) (hr : ∀ y,y∈r↔y∈cq∨y=x):nI W r+1≤nI W cq:=by
 refine OZ (fun y hy=>?_) hx (by simp [ho]) (by simp [hr])
 simp only [hr,not_or,Bool.not_eq_true',decide_eq_false_iff_not] at hy ⊢
 exact hy.1
def wh (W:List gC) (cq todo:List gC):Prop:=cq.length+nI W cq≤W.length∧todo.length+nI W cq≤W.length+1
theorem aaZ {W:List gC} (hW:W.length≤2000) (calls:Bool) (u:List aW) (hu:u.length≤64) (hin : ∀ x∈u,x.2.2.1∈W) {cq todo:List gC} (h:wh W cq todo) : ∃ r,Itr.it (dS calls u) (cq,todo,0)=some r∧wh W r.1 r.2∧todo.length≤r.2.length:=by
 refine fk (f:=dS calls u) (fun s=>u.length - s.2.2.toNat) (fun s=>∃ i:Nat,s.2.2=(i:Int)∧i≤u.length∧wh W s.1 s.2.1∧todo.length≤s.2.1.length) (fun r=>wh W r.1 r.2∧todo.length≤r.2.length)
  (fun s hs=>by
   obtain ⟨o,t,s2⟩:=s
   obtain ⟨i,h1,hi,hr,htl⟩:=hs
   dsimp only at h1 hr htl
   subst h1
   unfold dS
   rcases Nat.lt_or_ge i u.length with hlt | hge
   ·right
    have hx:=hin _ (show u.getD i (0,0,[],[])∈u by simp [hlt])
    have hp : ∃ r,jy calls u (o,t,(i:Int))=some r∧wh W r.1 r.2∧t.length≤r.2.length:=by
     unfold jy
     obtain ⟨ho1,ho2⟩:=hr
     obtain ⟨b,hb,hb2⟩:=yT o (by omega) (u.getD i (0,0,[],[])).2.2.1
     obtain ⟨r,hr1,hr2,hr3⟩:=PO o (by omega) (u.getD i (0,0,[],[])).2.2.1
     have add:b=false→wh W r (t++[(u.getD i (0,0,[],[])).2.2.1]):=by
      intro hbf
      have:=Zu (W:=W) hx (fun hm=>by have:=hb2.2 hm; rw [hbf] at this; cases this) hr2
      exact ⟨by omega,by simp only [List.length_append,List.length_singleton]; omega⟩
     have eap:aH t.length ([(u.getD i (0,0,[],[])).2.2.1]:List gC).length 16=true:=be (by simp only [List.length_singleton]; omega) (by omega)
     cases calls
     ·simp only [Bool.not_false,Bool.not_true,cond_false,cond_true,Option.bind_some,aD (0,0,[],[]) hlt,hb]
      cases b
      ·simp only [Bool.not_false,cond_true,hr1,Option.bind_some,eap,ah]
       exact ⟨_,rfl,add rfl,by simp⟩
      ·exact ⟨_,rfl,⟨ho1,ho2⟩,by simp⟩
     ·simp only [Bool.not_false,Bool.not_true,cond_false,cond_true,Option.bind_some,aD (0,0,[],[]) hlt]
      cases (u.getD i (0,0,[],[])).1==14
      ·exact ⟨_,rfl,⟨ho1,ho2⟩,by simp⟩
      ·simp only [cond_true,aD (0,0,[],[]) hlt,Option.bind_some,hb]
       cases b
       ·simp only [Bool.not_false,cond_true,hr1,Option.bind_some,eap,ah]
        exact ⟨_,rfl,add rfl,by simp⟩
       ·exact ⟨_,rfl,⟨ho1,ho2⟩,by simp⟩
    obtain ⟨r,hp1,hp2,hp3⟩:=hp
    simp only [aE (show (i:Int)<(u.length:Int) by omega),cond_true,hp1,Option.bind_some,aS (n:=u.length) (by omega) hlt]
    exact ⟨_,rfl,⟨i+1,rfl,by omega,hp2,by dsimp only; omega⟩,by dsimp only; omega⟩
   ·left
    simp only [aQ (show ¬ (i:Int)<(u.length:Int) by omega),cond_false]
    exact ⟨_,rfl,hr,htl⟩) ⟨0,rfl,by omega,h,by simp⟩ (by show u.length - (0:Int).toNat<_; omega)
theorem zi (l:List Df) (hl:l.length≤24) (hg : ∀ d∈l,mq d) (nm:gC) (calls:Bool) : ∃ r,fO l nm calls=some r∧r.length≤1536:=by
 unfold fO
 have hW:=IA hg
 generalize hWe:w9 l=W at hW
 have hin : ∀ d∈l,∀ x∈vU d,x∈W:=fun d hd x hx=>by rw [← hWe]; exact List.mem_flatMap.2 ⟨d,hd,hx⟩
 obtain ⟨r,h1,h2⟩:=fk (f:=ia l calls) (fun s=>W.length+2 - s.2.2.toNat) (fun s=>∃ i:Nat,s.2.2=(i:Int)∧i≤s.2.1.length∧wh W s.1 s.2.1) (fun r=>r.length≤W.length)
  (fun s hs=>by
   obtain ⟨o,t,s2⟩:=s
   obtain ⟨i,h1,hi,hr⟩:=hs
   dsimp only at h1 hi hr
   subst h1
   have hr0:=hr
   obtain ⟨ho1,ho2⟩:=hr0
   unfold ia
   rcases Nat.lt_or_ge i t.length with hlt | hge
   ·right
    have hp : ∃ r,((ac t (i:Int)).bind fun _=>(ac t (i:Int)).bind fun v5=>(bB l v5).bind fun r6=>bif decide (r6<(0:Int)) then some (o,t) else (ac l r6).bind fun _=>(ac l r6).bind fun v8=>(dZ v8.2).bind fun r9=>(eE r9).bind fun r10=>Itr.it (dS calls r10) (o,t,0))=some r∧wh W r.1 r.2∧t.length≤r.2.length:=by
     simp only [aD [] hlt,Option.bind_some]
     rcases rg l (by omega) (t.getD i []) with ⟨q1,_⟩ | ⟨j,q1,q2,q3,_⟩
     ·rw [q1]
      exact ⟨_,rfl,hr,by simp⟩
     ·obtain ⟨n,u,g,ht⟩:=xi l hl hg (show l.getD j ([],[])∈l by simp [q2])
      rw [q1]
      simp only [Option.bind_some,aQ (show ¬ (j:Int)<0 by omega),cond_false,aD ([],[]) q2,ht,g.found]
      obtain ⟨r,e1,e2,e4⟩:=aaZ (by omega) calls u g.uses (fun x hx=>hin _ (show l.getD j ([],[])∈l by simp [q2]) _ (by rw [B3 g]; exact List.mem_map.2 ⟨x,hx,rfl⟩)) hr
      exact ⟨r,e1,e2,e4⟩
    obtain ⟨r,hp1,hp2,hp3⟩:=hp
    have:=hp2.2
    refine ⟨(r.1,r.2,(i:Int)+1),?_,⟨i+1,rfl,by dsimp only; omega,hp2⟩,by dsimp only; omega⟩
    rw [aE (show (i:Int)<(t.length:Int) by omega),cond_true]
    refine (congrArg (fun z:Option W2=>z.bind _) hp1).trans ?_
    simp only [Option.bind_some,aS (n:=t.length) (by omega) hlt]
   ·left
    simp only [aQ (show ¬ (i:Int)<(t.length:Int) by omega),cond_false]
    exact ⟨_,rfl,by omega⟩) (s:=([],[nm],0)) ⟨0,rfl,by simp,by
     have:nI W []≤W.length:=List.length_filter_le _ _
     exact ⟨by simpa using this,by simp only [List.length_singleton]; omega⟩⟩ (by dsimp only; omega)
 rw [h1]
 exact ⟨r,rfl,by omega⟩
end Go.Proofs.YtfhhiajfciblbaaGreatDoor
