/- Laws for the row. No condition. -/
import Derived.Test.YtfhhiajfciblbaaGreatDoorLawX4
namespace Go.Proofs.YtfhhiajfciblbaaGreatDoor
open Go.Sm
set_option linter.unusedVariables false
set_option maxRecDepth 4000
variable {c:CC} {s:aF} {j w:Int} {e x:bu} {i:Nat} {V G st:List Int} {fs:List Fr} {f:Fr}
theorem agb (hc:bc c)  {K A N:Int} (h:RunV c s [] K A N) (hs:StOk c s)        {k pc:Nat} (hK:K≤10000) (hA:AtP c s i fs f st w x k pc)
  (hj:x.1=24→0≤j∧j≤1) (hto:x.1=19→¬ 0<(c.2.2.2.2.1.getD x.2.1.toNat ([],0)).2→0≤j∧j<(ee c s x.2.1).length) (hok:(cP c s i fs f st w x j).2.2.1=true) (ho:bj (cP c s i fs f st w x j).2.2.2<0) :
  RunV c (cP c s i fs f st w x j).2.2.2 (cP c s i fs f st w x j).1 (K+1) A (N+1):=by
 have hi:=cK hA.t
 have hcl:=h.cl
 have hput : ∀ (fr:List Fr) (st' : List Int),RunV c (bM s i (fr,st',w,false)) [(i:Int)] K A N:=fun fr st' => D6 h hi (by rw [d8 hA.t])
 unfold cP at *
 by_cases h18:x.1=18
 ·rw [if_pos h18] at *
  unfold ni at *
  by_cases h5:5≤cy s s.1.length
  ·rw [if_pos h5] at hok
   cases hok
  rw [if_neg h5]
  have hq:=hput (fs++[(ad (f.1+1),f.2)]) st
  have hl:cy (oB s i fs f st w) (oB s i fs f st w).1.length≤cy s s.1.length:=by
   rw [show (oB s i fs f st w).1.length=s.1.length from cD]
   refine lT _ fun k _ hk=>?_
   by_cases e:k=i
   ·rw [e,d8 hA.t] at hk
    cases hk
   ·unfold oB
    rw [nj e]
    exact hk
  have hn:=agI (s:=oB s i fs f st w) hq (by omega) x.2.1
  rw [show (oB s i fs f st w).1.length=s.1.length from cD] at hn
  exact mB hn (by omega) (by omega) (by omega)
 rw [if_neg h18] at *
 by_cases h19:x.1=19
 ·rw [if_pos h19] at *
  unfold gk at *
  by_cases hz:st.length=0
  ·rw [if_pos hz] at hok
   cases hok
  rw [if_neg hz] at *
  dsimp only at *
  by_cases hcap:0<(c.2.2.2.2.1.getD x.2.1.toNat ([],0)).2
  ·rw [if_pos hcap] at *
   exact mB (BI (hput (fs++[(ad (f.1+1),f.2)]) (st.take (st.length - 1))) rfl (hput (fs++[(ad (f.1+1),f.2)]) (st.take (st.length - 1))).own hcl (by omega) rfl) (by omega) (by omega) (by omega)
  ·rw [if_neg hcap] at *
   obtain ⟨q,gs,g,tt,tw,y,q1,q2,hq⟩:=xe hc hs hA h19 (hto h19 hcap)
   rw [q1,W4]
   refine mB (D6 (hput (fs++[(ad (f.1+1),f.2)]) (st.take (st.length - 1))) (by rw [cD]; exact q2) ?_) (by omega) (by omega) (by omega)
   rw [nj hq.ne]
 rw [if_neg h19] at *
 by_cases hp:f0 x.1
 ·rw [if_pos hp] at *
  exact mB (VU h hK hA.t hp hj hok) (by omega) (by omega) (by omega)
 ·rw [if_neg hp] at *
  unfold oq at *
  dsimp only at *
  by_cases h0:i=0
  ·rw [if_pos h0] at ho
   exact absurd ho (by show ¬ (0:Int)<0; omega)
  ·rw [if_neg h0]
   exact mB (af1 h hi h0) (by omega) (by omega) (by omega)
theorem Sg (c:CC) (kind:Int) (i:Nat) (h:0≤bj s):(bE c kind i s).1=s:=by
 have e:bX c kind i 64 s=(true,s):=by unfold bX; rw [if_pos h]
 unfold bE
 rw [e,if_neg (fun hh=>absurd hh.2 (by show ¬ bj s<0; omega))]
theorem Bh (c:CC) (kind:Int) : ∀ (l:List Int) {s:aF},0≤bj s→(bk c kind l s).1=s
 | [],s,h=>rfl
 | z::l,s,h=>by
  show (bk c kind l (bE c kind z.toNat s).1).1=s
  rw [Sg c kind _ h]
  exact Bh c kind l h
theorem O3 {c:CC} (hc:bc c) (kind:Int) : ∀ {l:List Int} {s:aF} {K A N:Int},CanRun c l s→RunV c s l K A N→K≤10000→A+6401 * l.length≤1000000000→bj (bk c kind l s).1<0 →
  RunV c (bk c kind l s).1 [] K (A+6401 * l.length) N
 | [],s,K,A,N,hcan,h,hK,hA,ho=>mB h (by omega) (by simp) (by omega)
 | z::l,s,K,A,N,hcan,h,hK,hA,ho=>by
  obtain ⟨n,rfl,hr⟩:=hcan.run z (W7 ..)
  have hnx:=wW hc kind hcan
  rw [W4] at hnx
  have ho' : bj (bk c kind l (bE c kind n s).1).1<0:=ho
  have ho2:bj (bE c kind n s).1<0:=by
   rcases aaU (bj (bE c kind n s).1) 0 with h1 | h1
   ·exact h1
   ·rw [Bh c kind l h1] at ho'
    exact ho'
  rw [XM] at hA ⊢
  have:=O3 hc kind hnx (FQ hc kind hcan.g hr h hK (by omega) ho2) hK (by omega) ho'
  exact mB this (by omega) (by omega) (by omega)
structure Idle (c:CC) (s:aF):Prop where
 g:GoodS c s
 v:bj s<0→RunV c s [] (20 * (65 - s.2.2.2.2.2.2.1)) (20000 * (65 - s.2.2.2.2.2.2.1)) 65∧1≤s.2.2.2.2.2.2.1∧0<(dB c s).length∧(s.2.2.2.2.2.2.2.2.1 = -1∨s.2.2.2.2.2.2.2.2.1∈dB c s)
theorem ZA (hc:bc c)  (h:Idle c s) (ho:bj s<0):gA c s=some 0:=by
 obtain ⟨hg,hv⟩:=h
 obtain ⟨v,f1,l1,hp⟩:=hv ho
 obtain ⟨j,k,err,v1,_,v3⟩:=tU c hc.2.2.2
 have herr:err=0:=by
  rcases v3 with ⟨h,_⟩ | ⟨_,h,_⟩ | ⟨_,_,h,_⟩ | ⟨_,_,_,h⟩
  ·have:=hc.1; omega
  ·exact absurd hc.2.1 h
  ·exact absurd hc.2.2.1 h
  ·exact h
 subst herr
 have n1:=v.n1
 have n2:=v.n
 have hsh:qx c s:=⟨⟨n1,by omega⟩,v.own,fun k hk=>v.so k hk (by simp),v.live⟩
 obtain ⟨b1,p1,p2⟩:=xN hc (0,0,0) [] hg.ok hg.sm
 have hb:b1=true:=p2.2 hsh
 subst hb
 have hlo:=hg.lo
 unfold bj at ho hlo
 have ew:ad (s.2.2.2.2.2.2.2.2.2.1+1)=s.2.2.2.2.2.2.2.2.2.1+1:=aY (by omega) (by omega)
 have hcl:=v.cl
 have hst:=v.st
 have hal:=v.al
 have hwa:=v.wa
 have hwh:=v.wh
 have hel:(dB c s).length≤1048576:=agt (nI _ _) hg.ok.n
 have h0:ac s.1 0=some (be s 0):=bG (fW n1)
 unfold gA
 dsimp only
 rw [v1]
 simp only [f7,Zj,Zh,no,lm s hg.sm,p1,XO,Xo,f9,jR,l7,ew]
 rw [aq (show 0≤s.2.2.2.2.2.1∧s.2.2.2.2.2.1≤1048576 by omega),aq (show 0≤s.2.2.2.2.2.2.1∧s.2.2.2.2.2.2.1≤64 by omega),hwh,aE (show ¬ w8 s.2.2.2.2.2.2.2.1.1 s.2.2.2.2.2.2.2.1.2.1 s.2.2.2.2.2.2.2.1.2.2 (0:Int)<0 by rw [Dy]; omega),
  aq (show 0≤s.2.2.2.2.2.2.2.2.2.1+1∧s.2.2.2.2.2.2.2.2.2.1+1≤5 by omega),aE (show ¬ (0:Int)≤s.2.2.2.2.2.2.2.2.2.1 by omega),bf (show ¬ s.2.2.2.2.2.2.1=0 by omega)]
 have hl1:(((dB c s).length:Int)==0)=false:=bf (by omega)
 simp only [hl1,W9,Zh,XO,Xo,f9,no,f7,Zj,oK hc hg.ok,h0,v.t0]
 rcases hp with hp | hp
 ·rw [nf hp]
  rfl
 ·by_cases hq:s.2.2.2.2.2.2.2.2.1 = -1
  ·rw [nf hq]
   rfl
  ·rw [nt hq]
   simp only [f9,no,Ci _ hel,f7,Zj,aq hp]
   rfl
theorem rX (hc:bc c)  (he:px e)  (h:Idle c s) (ho:bj s<0):dO c e s=some 0∧eY c e s=some 0∧GoOn c s:=by
 obtain ⟨v,v1,v2,v3⟩:=tW hc e h.g.ok h.g.sm ⟨h.g.lo,h.g.hi⟩
 have hv:dO c e s=some 0:=by
  unfold dO
  obtain ⟨b,b1,b2,b3⟩:=BA e
  rw [ZA hc h ho,b1,b3.2 he]
  unfold bj at ho
  simp only [f7,Zj,Zh,no,XO,aE (show ¬ (0:Int)≤s.2.2.2.2.2.2.2.2.2.1 by omega)]
 rw [hv] at v1
 injection v1 with v1
 subst v1
 exact ⟨hv,v2,(v3 rfl).2.1⟩
theorem OF (hc:bc c)  (he:px e)  (h:Idle c s) (ho:bj s<0):eA c e s=some (eN c e s,0)∧iN c e s=some (eN c e s,0):=by
 obtain ⟨r1,r2,hg⟩:=rX hc he h ho
 constructor
 ·unfold eA
  rw [r1]
  simp only [f7,Zj,Zh,no,lm s h.g.sm,oZ hc e [] hg]
 ·unfold iN
  rw [r2]
  simp only [f7,Zj,Zh,no,wI hc e [] hg]
theorem E1 (hc:bc c) (e:bu)  (h:GoOn c s):0<(eN c e s).2.2.2.length:=by
 unfold eN
 split
 ·rename_i h1
  simp only [ZO]
  omega
 ·obtain ⟨k,w1,w2,w3⟩:=yW h
  obtain ⟨fs,f,st,w,ht,hr⟩:=zC h.ok w2 w3
  obtain ⟨p,hpn,hO,hx⟩:=wG hc h.ok w2 (by rw [ht])
  rw [hx] at hO
  rw [w1,W4]
  unfold iz
  dsimp only
  split
  ·rename_i h23
   obtain ⟨g1,g2⟩:=hO.2.2.2.2.2.2.2.2.1 h23
   simp only [ZO]; omega
  split
  ·rename_i h1
   simp only [ZO]
   omega
  split
  ·simp
  split <;> simp
theorem MY {k:Nat}  (h24:(dM c (be s k)).1=24) (hj:0≤j∧j<((iz c e s k).2.2.2.length:Int)):0≤j∧j≤1:=by
 unfold iz at hj
 dsimp only at hj
 rw [if_neg (by omega),if_neg (by omega)] at hj
 split at hj
 ·simp at hj; omega
 rw [if_neg (by omega)] at hj
 simp at hj; omega
theorem EN (hc:bc c) (e:bu)  (h:Idle c s) (ho:bj s<0)        (hm:Moves c e s j i fs f st w x) (hj:x.1=24→0≤j∧j≤1) :
  Idle c (lH c e s i (cP c (bR s (-1)) i fs f st w x j)).1:=by
 obtain ⟨v,f1,l1,hp⟩:=h.v ho
 refine ⟨(DN hc e hm).2.2.1,fun ho2=>?_⟩
 have hd:=xu hc (me hm.gs (-1)) (show (bR s (-1)).1.length≤70 by have:=hm.n; show s.1.length≤70; omega) hm.can hm.run hm.hq
 obtain ⟨k,pc,hA⟩:=hm.can.at_
 have v' : RunV c (bR s (-1)) [] (20 * (65 - s.2.2.2.2.2.2.1)) (20000 * (65 - s.2.2.2.2.2.2.1)) 65:=⟨v.n1,v.n,v.fu,v.own,v.so,v.wk,agu (lT (s:=s) (t:=bR s (-1)) s.1.length fun k _ h=>h) v.live,v.cl,v.st,v.al,v.wa,v.wh,v.t0⟩
 have n1:=v.n1
 have n2:=v.n
 have hrun:=agb hc v' hm.can.ok (by omega) hA hj hm.can.to
 have hfu:(cP c (bR s (-1)) i fs f st w x j).2.2.2.2.2.2.2.2.2.1=s.2.2.2.2.2.2.1∧(cP c (bR s (-1)) i fs f st w x j).2.2.2.2.2.2.2.2.2.2.2.1 = -1:=by
  unfold cP
  split
  ·unfold ni
   split <;> exact ⟨rfl,rfl⟩
  split
  ·unfold gk
   dsimp only
   split
   ·exact ⟨rfl,rfl⟩
   split <;> exact ⟨rfl,rfl⟩
  split
  ·rename_i hpl
   have e1:=Fw (i:=i) (f:=f) (st:=st) (k:=j) (r:=(bR s (-1)).2) hpl
   unfold kn nU
   dsimp only
   split <;> exact ⟨XZ (fun r=>r.1) e1,XZ (fun r=>r.2.2.1) e1⟩
  ·unfold oq
   dsimp only
   split <;> exact ⟨rfl,rfl⟩
 generalize cP c (bR s (-1)) i fs f st w x j=q at *
 unfold lH at *
 cases hok:q.2.2.1
 ·rw [hok] at ho2
  simp only [Ys,XB] at ho2
  rw [mt] at ho2
  omega
 rw [hok] at ho2
 simp only [Xa] at ho2 ⊢
 have hl:=hd.left hok
 have hcan:CanRun c q.1 (ju q.2.2.2):=⟨vJ hl.g,fun z hz=>by
  obtain ⟨n,rfl,fs',f',st',w',h1,h2⟩:=hl.run z hz
  exact ⟨n,rfl,fs',f',st',w',h1,h2⟩,hl.nd⟩
 have ho3:bj (bk c e.1 q.1 (ju q.2.2.2)).1<0:=by
  rcases aaU (bj (bk c e.1 q.1 (ju q.2.2.2)).1) 0 with h1 | h1
  ·exact h1
  ·unfold dz at ho2
   rw [if_pos h1] at ho2
   exact ho2
 have ho4:bj q.2.2.2<0:=by
  rcases aaU (bj q.2.2.2) 0 with h1 | h1
  ·exact h1
  ·rw [Bh c e.1 q.1 (s:=ju q.2.2.2) h1] at ho3
   exact ho3
 have ht:=WD (hrun hok ho4) (by rw [hfu.1]; exact f1) (by rw [hfu.1]; omega) (by omega) (by omega)
 have htwo:=hl.two
 have ha:=O3 hc e.1 hcan ht (by omega) (by omega) ho3
 obtain ⟨s1,s2,s3,s4⟩:=CQ ha ho2
 have hk:=(yX c e.1 q.1 (ju q.2.2.2)).2
 have ef:(dz c (bk c e.1 q.1 (ju q.2.2.2)).1).2.2.2.2.2.2.1=s.2.2.2.2.2.2.1 - 1:=by
  rw [s4,hk.1]
  show ad (q.2.2.2.2.2.2.2.2.2.1 - 1)=_
  rw [hfu.1]
  exact aY (by omega) (by omega)
 refine ⟨mB s1 (by omega) (by omega) (by omega),s2,s3, .inl ?_⟩
 rw [s4,hk.2]
 exact hfu.2
theorem afP (h:GoodS c s)  (h1:V.length=s.2.1.length) (h2:G.length=s.2.2.2.2.1.length):GoodS c (vf V G s):=by
 obtain ⟨⟨a1,a2,a3,a4⟩,⟨b1,b2,b3,b4,b5,b6,b7⟩,a5,a6⟩:=h
 exact ⟨⟨a1,a2,⟨h1.trans a3.1,a3.2,a3.3,h2.trans a3.4⟩,a4⟩,⟨b1,b2,by rw [show (vf V G s).2.1=V from rfl,h1]; exact b3,b4,b5,b6,by rw [show (vf V G s).2.2.2.2.1=G from rfl,h2]; exact b7⟩,a5,a6⟩
theorem Np (h:Idle c s)  (h1:V.length=s.2.1.length) (h2:G.length=s.2.2.2.2.1.length):Idle c (vf V G s):=
 ⟨afP h.g h1 h2,fun ho=>by
  obtain ⟨v,f1,l1,hp⟩:=h.v ho
  exact ⟨⟨v.n1,v.n,v.fu,v.own,v.so,v.wk,agu (lT (s:=s) (t:=vf V G s) s.1.length fun k _ h=>h) v.live,v.cl,v.st,v.al,v.wa,v.wh,v.t0⟩,f1,l1,hp⟩⟩
theorem Zo (hc:bc c)   (h:GoodS c s) (h' : GoodS c (vf V G s)):gA c (vf V G s)=gA c s:=by
 obtain ⟨b1,p1,p2⟩:=xN hc (0,0,0) [] h.ok h.sm
 obtain ⟨b2,q1,q2⟩:=xN hc (0,0,0) [] h'.ok h'.sm
 have hlv : ∀ n,cy (vf V G s) n=cy s n:=fun n=>Int.le_antisymm (lT (s:=s) (t:=vf V G s) n fun k _ h=>h) (lT (s:=vf V G s) (t:=s) n fun k _ h=>h)
 have hb:b1=b2:=by
  rw [agJ,p2,q2]
  unfold qx
  rw [hlv]
  exact Iff.rfl
 subst hb
 obtain ⟨j,k,err,v1,_,v3⟩:=tU c hc.2.2.2
 unfold gA
 dsimp only
 rw [v1]
 simp only [f7,Zj,lm _ h.sm,lm _ h'.sm,p1,q1,oK hc h.ok,oK hc h'.ok]
 rfl
theorem aeD (hc:bc c) (e:bu)   (h:GoodS c s) (h' : GoodS c (vf V G s)):eA c e (vf V G s)=eA c e s:=by
 obtain ⟨v,v1,v2,v3⟩:=tW hc e h.ok h.sm ⟨h.lo,h.hi⟩
 obtain ⟨u,u1,u2,u3⟩:=tW hc e h'.ok h'.sm ⟨h'.lo,h'.hi⟩
 have hr:dO c e (vf V G s)=dO c e s:=by
  unfold dO
  rw [Zo hc h h']
  rfl
 rw [hr,v1] at u1
 injection u1 with u1
 subst u1
 unfold eA
 rw [hr,v1]
 simp only [f7,Zj,lm _ h.sm,lm _ h'.sm]
 by_cases hv:v=0
 ·rw [nf hv]
  simp only [no,oZ hc e [] (v3 hv).2.1,oZ hc e [] (u3 hv).2.1]
  rfl
 ·rw [nt hv]
  rfl
theorem B4 {L:List bI} {k o:Int} {b:Bool} (h:(k,o,b)∈L) : ∃ b',(k,o,b')∈nL L∧(b=true→b' = true):=by
 have hs:=(B3 L [] (l:=[]) List.Pairwise.nil (fun _ _=>rfl)).2 k o
 refine ⟨L.any fun a=>decide (a.1=k∧a.2.1=o)&&a.2.2,sR (hs.trans ?_),fun hb=>?_⟩
 ·rw [Yv]
  unfold tm
  rw [if_pos (Z0.2 ⟨_,h,by simp⟩)]
 ·exact Z0.2 ⟨_,h,by simp [hb]⟩
def xM (v:List bI) (kind:Int) (a b:List Int):Prop:=a.length=b.length∧∀ k:Nat,(∃ x,(kind,(k:Int),x)∈v)→a.getD k 0=b.getD k 0
theorem Vb :(x.1=16→(0,x.2.1,false)∈(cP c s i fs f st w x j).2.1)∧(x.1=27→(3,x.2.1,false)∈(cP c s i fs f st w x j).2.1):=by
 constructor <;> intro h
 ·have e:(cP c s i fs f st w x j).2.1=[(0,x.2.1,false)]:=by
   unfold cP
   rw [if_neg (by omega),if_neg (by omega),if_pos (.inl h)]
   unfold kn dH
   dsimp only
   rw [if_pos h]
   split <;> rfl
  rw [e]
  exact Wz.2 rfl
 ·have e:(cP c s i fs f st w x j).2.1=[(3,x.2.1,false)]:=by
   unfold cP
   rw [if_neg (by omega),if_neg (by omega),if_pos (by unfold f0; omega)]
   unfold kn dH
   dsimp only
   rw [if_neg (by omega),if_neg (by omega),if_neg (by omega),if_neg (by omega),if_neg (by omega),if_neg (by omega),if_neg (by omega),if_neg (by omega),if_neg (by omega)]
  rw [e]
  exact Wz.2 rfl
theorem U9 {q:rY} {a:bI} (h:a∈q.2.1):a∈(lH c e s i q).2:=by
 unfold lH
 split
 ·exact Xd.2 (.inl (Wq _ h))
 ·exact Wq _ h
structure Steps1 (c:CC) (e:bu) (s:aF) (j:Int) (t:aF) (v:List bI):Prop where
 p:gB c e s j=some (t,v,0)
 r:gm c e s j=some (t,v,0)
 i:Idle c t
 n:v.length≤12
 nm:NmS v s t
 vf : ∀ V G,xM v 0 V s.2.1→xM v 3 G s.2.2.2.2.1→∃ a b,gB c e (vf V G s) j=some (vf a b t,v,0)∧Idle c (vf a b t)
theorem abP (hc:bc c)  (he:px e)  (h:Idle c s) (ho:bj s<0)  (hj:0≤j∧j<((eN c e s).2.2.2.length:Int)) : ∃ t v,Steps1 c e s j t v:=by
 obtain ⟨r1,r2,hg⟩:=rX hc he h ho
 by_cases hp:s.2.2.2.2.2.2.2.2.1<0∧1<(dB c s).length
 ·have hP:eN c e s=(0,-1,-1,List.replicate (dB c s).length 1):=by unfold eN; rw [if_pos hp]
  have hj' := hj
  rw [hP] at hj
  dsimp only at hj
  rw [ZO] at hj
  have hx:ac (dB c s) j=some ((dB c s).getD j.toNat 0):=aT 0 hj.1 hj.2
  have hm:(dB c s).getD j.toNat 0∈dB c s:=dv 0 (by omega)
  have hI : ∀ {t:aF},Idle c t→bj t<0→dB c t=dB c s→Idle c (bR t ((dB c s).getD j.toNat 0)):=fun {t} ht hot hen=>⟨me ht.g _,fun _=>by
   obtain ⟨v,f1,l1,_⟩:=ht.v hot
   exact ⟨⟨v.n1,v.n,v.fu,v.own,v.so,v.wk,agu (lT (s:=t) (t:=bR t ((dB c s).getD j.toNat 0)) t.1.length fun k _ h=>h) v.live,v.cl,v.st,v.al,v.wa,v.wh,v.t0⟩,f1,l1, .inr (by rw [show dB c (bR t ((dB c s).getD j.toNat 0))=dB c t from rfl,hen]; exact hm)⟩⟩
  have hdo : ∀ {t:aF},Idle c t→bj t<0→dB c t=dB c s→eN c e t=eN c e s→gB c e t j=some (bR t ((dB c s).getD j.toNat 0),[],0)∧gm c e t j=some (bR t ((dB c s).getD j.toNat 0),[],0):=fun {t} ht hot hen hpt=>by
   obtain ⟨r1,r2,hg⟩:=rX hc he ht hot
   constructor
   ·unfold gB
    rw [r1]
    simp only [f7,Zj,Zh,no,lm t ht.g.sm,oZ hc e [] hg,hpt,hP,ZO]
    rw [oN,aE (by omega),aq (show (-1:Int)<0 by omega)]
    simp only [no,f9,oK hc ht.g.ok,hen,f7,Zj,hx]
    rfl
   ·unfold gm
    rw [r2]
    simp only [f7,Zj,Zh,no,Ak t ht.g.sm,wI hc e [] hg,hpt,hP,ZO]
    rw [oN,aE (by omega),aq (show (-1:Int)<0 by omega)]
    simp only [no,f9,GB hc ht.g.ok,hen,f7,Zj,hx]
    rfl
  refine ⟨_,_,(hdo h ho rfl rfl).1,(hdo h ho rfl rfl).2,hI h ho rfl,by simp,ic ⟨rfl,rfl,rfl,rfl⟩,fun V G hV hG=>⟨V,G,?_⟩⟩
  have hv:=Np h hV.1 hG.1
  exact ⟨(hdo hv ho rfl rfl).1,hI hv ho rfl⟩
 ·obtain ⟨i,fs,f,st,w,x,hm⟩:=YL hc e h.g r1 r2 hg hp hj
  obtain ⟨d1,d2,d3,d4⟩:=DN hc e hm
  have hA:=hm.can.at_
  obtain ⟨k,pc,hA⟩:=hA
  have hF:=hc.2.2.1 k pc hA.pc2 hA.pr
  rw [hA.x] at hF
  obtain ⟨_,_,_,_,_,_,_,o6,o7,o8,_,_,o11,_⟩:=hF
  have h24:x.1=24→0≤j∧j≤1:=fun hx=>by
   obtain ⟨p,p1,p2,p3,p4,p5⟩:=hm.pt
   rw [oZ hc e [] hg] at p1
   injection p1 with p1
   subst p1
   have hwho:eN c e s=iz c e s i:=by
    have:eN c e s=iz c e s (uU c s).toNat:=by unfold eN; rw [if_neg hp]
    rw [this,x9] at p3
    rw [this]
    congr 1
    omega
   rw [hwho] at p5
   refine MY (k:=i) ?_ ⟨p4,p5⟩
   rw [d8 hm.t]
   have:=hA.x
   unfold dM
   rw [dL,show f.1.toNat=pc by have:=hA.pc1; omega,this]
   exact hx
  have hnm:NmS (cP c (bR s (-1)) i fs f st w x j).2.1 (bR s (-1)) (cP c (bR s (-1)) i fs f st w x j).2.2.2:=ahI fun hx=>by
   rcases hx with h | h | h | h | h | h
   ·exact (o6 (.inr h)).1
   ·exact (o7 (.inl h)).1
   ·exact (o7 (.inr h)).1
   ·exact (o8 (.inl h)).1
   ·exact (o8 (.inr h)).1
   ·exact (o11 (.inl h)).1
  have hnm:=akI (c:=c) (e:=e) (i:=i) hnm
  have lift : ∀ {α:Type} {d:α} {kind:Int} {a b:List α},Nm d (lH c e s i (cP c (bR s (-1)) i fs f st w x j)).2 kind a b→Nm d (nL (lH c e s i (cP c (bR s (-1)) i fs f st w x j)).2) kind a b:=fun hh=>⟨hh.1,fun k hk=>by
   obtain ⟨b',h1,h2⟩:=B4 (hh.2 k hk)
   rw [h2 rfl] at h1
   exact h1⟩
  refine ⟨_,_,d1,d2,EN hc e h ho hm h24,d4,⟨lift hnm.v,lift hnm.q,lift hnm.o,lift hnm.f⟩,fun V G hV hG=>?_⟩
  have hrd:P8 x V G (bR s (-1)):=by
   have he:=Vb (c:=c) (s:=bR s (-1)) (i:=i) (fs:=fs) (f:=f) (st:=st) (w:=w) (x:=x) (j:=j)
   constructor
   ·intro hx
    obtain ⟨b',h1,_⟩:=B4 (U9 (c:=c) (e:=e) (s:=s) (i:=i) (he.1 hx))
    exact hV.2 x.2.1.toNat ⟨b',by rw [agh (o6 (.inl hx)).1]; exact h1⟩
   ·intro hx
    obtain ⟨b',h1,_⟩:=B4 (U9 (c:=c) (e:=e) (s:=s) (i:=i) (he.2 hx))
    exact hG.2 x.2.1.toNat ⟨b',by rw [agh (o11 (.inr hx)).1]; exact h1⟩
  have hv:=Np h hV.1 hG.1
  obtain ⟨r1',r2',hg'⟩:=rX hc he hv ho
  have hgp:=me hv.g (-1)
  have hm' : Moves c e (vf V G s) j i fs f st w x:=by
   obtain ⟨g1,g2,g3,g4,g5,g6,g7,⟨⟨k1,pc1,hA1⟩,c2,c3,c4,c5,c6⟩,g9⟩:=hm
   obtain ⟨p,p1,p2,p3,p4,p5⟩:=g5
   rw [oZ hc e [] hg] at p1
   injection p1 with p1
   subst p1
   exact ⟨hv.g,g2,r1',r2',⟨eN c e s,oZ hc e [] hg',wI hc e [] hg',p3,p4,p5⟩,g6,g7,⟨⟨k1,pc1,⟨hA1.t,hA1.n,hA1.m,hA1.pc1,hA1.pc2,hA1.pr,hA1.lo,hA1.x⟩⟩,hgp.ok,c3,c4,c5,c6⟩,g9⟩
  obtain ⟨d1',_,_,_⟩:=DN hc e hm'
  have hi' := EN hc e hv ho hm' h24
  obtain ⟨v',g',heff⟩:=ag5 (c:=c) (i:=i) (fs:=fs) (f:=f) (st:=st) (w:=w) (j:=j) hrd
  rw [show bR (vf V G s) (-1)=vf V G (bR s (-1)) from rfl,heff] at d1' hi'
  obtain ⟨a,b,hdo⟩:=aku (c:=c) (e:=e) (s:=s) (i:=i) (q:=cP c (bR s (-1)) i fs f st w x j) (v:=V) (g:=G) (v' := v') (g' := g')
  rw [hdo] at d1' hi'
  exact ⟨a,b,d1',hi'⟩
def N0 (v:List bI) (k o:Int) (ch:Bool):Bool:=v.any fun a=>(a.1==k&&a.2.1==o)&&(a.2.2 || !ch)
theorem xh (v:List bI) (hv:v.length≤1000) (k o:Int) (ch:Bool):fP v k o ch=some (N0 v k o ch):=by
 unfold fP
 rcases cH (f:=iu v k o ch) v.length (by omega) (fun i=>(fun a:bI=>(a.1==k&&a.2.1==o)&&(a.2.2 || !ch)) (v.getD i (0,0,false))=false) (fun _=>true)
  (fun i hi _=>by
   have ei:=aB (0,0,false) hi
   have ed:=aq (show (i:Int)<(v.length:Int) by omega)
   unfold iu
   simp only [ed,f9,ei,f7,Zj]
   generalize v.getD i (0,0,false)=a
   rw [aW (n:=v.length) (by omega) hi]
   cases a.1==k <;> cases h2:a.2.1==o <;> cases h3:a.2.2 <;> cases ch <;> simp [h2,h3])
  (fun _=>by unfold iu; rw [aE (by omega)]; rfl) with ⟨hp,he⟩ | ⟨i,hi,_,hp,he⟩
 ·rw [he]
  refine XZ some (Eq.symm (Bool.eq_false_iff.2 fun h=>?_))
  obtain ⟨a,ha,hx⟩:=Z0.1 h
  obtain ⟨n,hn,rfl⟩:=agL ha
  have:=hp n hn
  simp only [XF,YK hn,aet] at this
  rw [this] at hx
  cases hx
 ·rw [he]
  exact XZ some (Eq.symm (Z0.2 ⟨_,dv (0,0,false) hi,by rw [Bool.not_eq_false] at hp; exact hp⟩))
theorem En {v:List bI} (hv:v.length≤1000) {k:Int} {a b:List Int} (ha:a.length≤1048576) (h:Nm 0 v k a b):iL v k a b=some true:=by
 unfold iL
 rw [nf (show (a.length:Int)=(b.length:Int) by rw [h.1]),no]
 rcases cH (f:=iY v k a b) a.length (by omega) (fun _=>True) (fun _=>false)
  (fun i hi _=>by
   left
   refine ⟨trivial,?_⟩
   unfold iY
   simp only [aq (show (i:Int)<(a.length:Int) by omega),f9,aB 0 hi,aB (xs:=b) 0 (show i<b.length by have:=h.1; omega),f7,Zj,xh v hv,aW (n:=a.length) (by omega) hi]
   by_cases hne:a.getD i 0=b.getD i 0
   ·rw [nf hne]
    rfl
   ·have:N0 v k i true=true:=Z0.2 ⟨_,h.2 i hne,by simp⟩
    rw [nt hne,this]
    rfl)
  (fun _=>by unfold iY; rw [aE (by omega)]; rfl) with ⟨_,he⟩ | ⟨i,_,_,hP,_⟩
 ·rw [he]; rfl
 ·exact absurd trivial hP
theorem YN (a b:List Int) (h:a.length≤1048576) : ∃ r,dF a b=some r∧(r=false→a≠b):=by
 have hex : ∃ r,dF a b=some r:=by
  unfold dF
  by_cases hl:a.length=b.length
  ·rw [nf (show (a.length:Int)=(b.length:Int) by rw [hl]),no]
   rcases cH (f:=cX a b) a.length (by omega) (fun i=>a.getD i 0=b.getD i 0) (fun _=>false)
    (fun i hi _=>by
     unfold cX
     simp only [aq (show (i:Int)<(a.length:Int) by omega),f9,aB 0 hi,aB (xs:=b) 0 (show i<b.length by omega),f7,Zj,aW (n:=a.length) (by omega) hi]
     by_cases hne:a.getD i 0=b.getD i 0
     ·rw [nf hne]
      exact .inl ⟨hne,rfl⟩
     ·rw [nt hne]
      exact .inr ⟨hne,rfl⟩)
    (fun _=>by unfold cX; rw [aE (by omega)]; rfl) with ⟨_,he⟩ | ⟨i,_,_,hP,he⟩
   ·rw [he]; exact ⟨_,rfl⟩
   ·rw [he]; exact ⟨_,rfl⟩
  ·rw [nt (show ¬ (a.length:Int)=(b.length:Int) by omega)]
   exact ⟨_,rfl⟩
 obtain ⟨r,hr⟩:=hex
 refine ⟨r,hr,fun hf hab=>?_⟩
 rw [hab,Fy b (by rw [← hab]; exact h)] at hr
 injection hr with hr
 rw [hf] at hr
 cases hr
def kv (i:Int) (s:aF):oM:=(i,s.1,s.2.1,s.2.2.1,s.2.2.2.1,s.2.2.2.2.1,s.2.2.2.2.2.1,s.2.2.2.2.2.2.1,s.2.2.2.2.2.2.2.1.1,s.2.2.2.2.2.2.2.1.2.1,s.2.2.2.2.2.2.2.1.2.2,s.2.2.2.2.2.2.2.2)
theorem A1 {f:oM→Option (oM⊕ko)} {v:List bI} {kind:Int} {a:List Int} (ha:a.length≤1048576) (F:List Int→aF) (D:Int→Int)
  (hstep : ∀ (i:Nat) (V:List Int),i<a.length→V.length=a.length→f (kv (i:Int) (F V))=some (.inl (kv ((i:Int)+1) (F (if N0 v kind i false=true then V else V.set i (D (V.getD i 0)))))))
  (hend : ∀ V:List Int,V.length=a.length→f (kv (a.length:Int) (F V))=some (.inr (kv 0 (F V)).2)) : ∃ V,Itr.it f (kv 0 (F a))=some (kv 0 (F V)).2∧xM v kind V a:=by
 obtain ⟨r,h1,V,h2,h3⟩:=fw (f:=f) (fun y=>a.length - y.1.toNat) (fun y=>∃ (i:Nat) (V:List Int),y=kv (i:Int) (F V)∧i≤a.length∧xM v kind V a) (fun r=>∃ V,r=(kv 0 (F V)).2∧xM v kind V a)
  (fun y hy=>by
   obtain ⟨i,V,rfl,hi,hA⟩:=hy
   rcases XJ i a.length with hlt | hge
   ·right
    refine ⟨_,hstep i V hlt hA.1,⟨i+1,_,rfl,hlt,?_⟩,by show a.length - ((i:Int)+1).toNat<a.length - ((i:Nat):Int).toNat; omega⟩
    split
    ·exact hA
    ·rename_i hn
     refine ⟨by rw [Y4]; exact hA.1,fun k hk=>?_⟩
     rw [← hA.2 k hk]
     by_cases e:i=k
     ·subst e
      obtain ⟨x,hx⟩:=hk
      exact absurd (Z0.2 ⟨_,hx,by simp⟩) hn
     ·rw [XF,Zd e,XF]
   ·left
    have:i=a.length:=by omega
    subst this
    exact ⟨_,hend V hA.1,V,rfl,hA⟩)
  (s:=kv 0 (F a)) ⟨0,a,rfl,by omega,rfl,fun k _=>rfl⟩ (by show a.length - (0:Int).toNat<_; omega)
 exact ⟨V,by rw [h1,h2],h3⟩
theorem UH (x5:Int) (r:aF×List bI×Int) (hv:r.2.1.length≤1000) (s:aF) (hs:s.2.1.length≤1048576) : ∃ V,Itr.it (dl x5 r) (kv 0 s)=some (kv 0 (vf V s.2.2.2.2.1 s)).2∧xM r.2.1 0 V s.2.1:=
 A1 (f:=dl x5 r) hs (fun V=>vf V s.2.2.2.2.1 s) (fun n=>ad (n+x5))
  (fun i V hi hV=>by
   unfold dl kv vf
   dsimp only
   simp only [aq (show (i:Int)<(V.length:Int) by omega),f9,xh _ hv,f7,Zj,aB (xs:=V) 0 (show i<V.length by omega),aW (n:=s.2.1.length) (by omega) hi]
   cases N0 r.2.1 0 (i:Int) false <;> rfl)
  (fun V hV=>by
   unfold dl kv vf
   dsimp only
   rw [aE (by omega)]
   rfl)
theorem PF (x5:Int) (r:aF×List bI×Int) (hv:r.2.1.length≤1000) (s:aF) (hs:s.2.2.2.2.1.length≤1048576) : ∃ G,Itr.it (dh x5 r) (kv 0 s)=some (kv 0 (vf s.2.1 G s)).2∧xM r.2.1 3 G s.2.2.2.2.1:=
 A1 (f:=dh x5 r) hs (fun G=>vf s.2.1 G s) (fun n=>ad (n - x5))
  (fun i V hi hV=>by
   unfold dh kv vf
   dsimp only
   simp only [aq (show (i:Int)<(V.length:Int) by omega),f9,xh _ hv,f7,Zj,aB (xs:=V) 0 (show i<V.length by omega),aW (n:=s.2.2.2.2.1.length) (by omega) hi]
   cases N0 r.2.1 3 (i:Int) false <;> rfl)
  (fun V hV=>by
   unfold dh kv vf
   dsimp only
   rw [aE (by omega)]
   rfl)
theorem M2 (s:aF) (r:aF×List bI×Int) (hv:r.2.1.length≤1000) (hs:cU s) (h:Nm [] r.2.1 1 s.2.2.1 r.1.2.2.1):Itr.it (di s r) 0=some (.inl ()):=by
 have hn:=hs.2.2.2.1
 rcases cH (f:=di s r) s.2.2.1.length (by omega) (fun _=>True) (fun _=>false)
  (fun i hi _=>by
   left
   refine ⟨trivial,?_⟩
   unfold di
   obtain ⟨b,b1,b2⟩:=YN (s.2.2.1.getD i []) (r.1.2.2.1.getD i []) (hs.2.2.2.2.1 _ (dv [] hi))
   simp only [aq (show (i:Int)<(s.2.2.1.length:Int) by omega),f9,aB [] hi,aB (xs:=r.1.2.2.1) [] (show i<r.1.2.2.1.length by have:=h.1; omega),f7,b1,xh _ hv,aW (n:=s.2.2.1.length) (by omega) hi]
   cases b
   ·have:N0 r.2.1 1 i true=true:=Z0.2 ⟨_,h.2 i (b2 rfl),by simp⟩
    rw [this]
    rfl
   ·rfl)
  (fun _=>by unfold di; rw [aE (by omega)]; rfl) with ⟨_,he⟩ | ⟨i,_,_,hP,_⟩
 ·exact he
 ·exact absurd trivial hP
theorem QX (hc:bc c) (e:bu) (l:List lJ):Idle c (sA c e l):=by
 obtain ⟨r1,r2,r3⟩:=Ck hc l
 have hg:GoodS c (ib c l):=⟨TJ hc l,r3,(by show (-1:Int)≤-1; omega),(by show (-1:Int)≤4; omega)⟩
 refine ⟨RT hc e l,fun ho=>?_⟩
 have h0:RunV c (ib c l) [((0:Nat):Int)] 0 0 65:=by
  refine ⟨by simp [ib],by simp [ib],by simp [ib],fun k hk=>?_,fun k hk hL=>?_,fun k hk=>?_,by simp [ib,cy,be],by simp [ib],by simp [ib],by simp [ib],by simp [ib],rfl,rfl⟩
  ·have:(ib c l).2.2.2.1.getD k 0 = -1:=by
    have hk' : k<c.2.2.2.2.2.1.length:=by simpa [ib] using hk
    simp [ib,XF,hk']
   unfold kY
   rw [this]
   simp [ib]
  ·have:k=0:=by simpa [ib] using hk
   subst this
   exact absurd (Wz.2 rfl) hL
  ·have:k=0:=by simpa [ib] using hk
   subst this
   exact ⟨aeq _,by show (0:Int)≤0+10; omega⟩
 have ho1:bj (bE c e.1 0 (ib c l)).1<0:=by
  rcases aaU (bj (bE c e.1 0 (ib c l)).1) 0 with h1 | h1
  ·exact h1
  ·unfold sA dz at ho
   rw [if_pos h1] at ho
   exact ho
 have hq:=FQ hc e.1 hg r1 h0 (by omega) (by omega) ho1
 obtain ⟨s1,s2,s3,s4⟩:=CQ hq ho
 have h6:=(AG c e.1 0 (ib c l)).2
 have ef:(sA c e l).2.2.2.2.2.2.1=64:=by
  unfold sA
  rw [s4,h6.1]
  rfl
 refine ⟨?_,s2,s3, .inl ?_⟩
 ·rw [ef]
  exact mB s1 (by omega) (by omega) (by omega)
 ·unfold sA
  rw [s4,h6.2]
  rfl
theorem aeP (hs:eP c) (e:bu) {l:List lJ} (hl:l.length≤1048576) {w:List Int} (hw : ∀ x∈w,qi x) {n:Int} (hn:0≤n∧n<40) : ∃ s,mN c e l w n=some s∧cU s∧(bj s<0→bc c∧px e∧Idle c s):=by
 unfold mN
 obtain ⟨s,f,w1,w2,w3,w4,w5⟩:=TE c hs e l hl
 rw [w2]
 simp only [f7,Zj]
 have h0:bj s<0→bc c∧px e∧Idle c s:=fun ho=>by
  by_cases hf:f=0
  ·obtain ⟨a1,a2,a3,_⟩:=w4 hf
   exact ⟨a1,a2,by rw [a3]; exact QX a1 e l⟩
  ·rw [w5 hf] at ho
   exact absurd ho (by show ¬ (0:Int)<0; omega)
 obtain ⟨r,h1,t,h2,h3,h4⟩:=fw (f:=iV c e w n) (fun y=>(n - y.1).toNat) (fun y=>∃ (i:Int) (t:aF),y=kv i t∧0≤i∧i≤n∧cU t∧(bj t<0→bc c∧px e∧Idle c t)) (fun r=>∃ t,r = .inl (kv 0 t).2∧cU t∧(bj t<0→bc c∧px e∧Idle c t))
  (fun y hy=>by
   obtain ⟨i,t,rfl,hi,hi2,hsm,hid⟩:=hy
   by_cases hcond:i<n∧bj t<0
   ·right
    obtain ⟨a1,a2,a3⟩:=hid hcond.2
    obtain ⟨_,hnx⟩:=OF a1 a2 a3 hcond.2
    have hpos:=E1 a1 e (rX a1 a2 a3 hcond.2).2.2
    obtain ⟨_,_,_,n2,n3⟩:=yw a1 e a3.g.ok a3.g.sm ⟨a3.g.lo,a3.g.hi⟩
    rw [hnx] at n2
    injection n2 with n2
    injection n2 with n2 _
    rw [← n2] at n3
    obtain ⟨j,j1,j2,j3⟩:=at_ok hw i (n:=((eN c e t).2.2.2.length:Int)) (by omega) (by omega)
    obtain ⟨u,v,hS⟩:=abP a1 a2 a3 hcond.2 ⟨j2,j3⟩
    refine ⟨kv (i+1) u,?_,⟨i+1,u,rfl,by omega,by omega,hS.i.g.sm,fun _=>⟨a1,a2,hS.i⟩⟩,by show (n - (i+1)).toNat<(n - i).toNat; omega⟩
    have hr:=hS.r
    have hot:t.2.2.2.2.2.2.2.2.2.1<0:=hcond.2
    obtain ⟨b1,b2,b3,b4,b5,b6,b7,⟨d1,d2,d3⟩,b9⟩:=t
    unfold iV kv
    dsimp only at *
    rw [aq hcond.1,aq hot]
    simp only [f9,hnx,f7,Zj,Zh,no,j1,hr,aY (x:=i+1) (by omega) (by omega)]
   ·left
    refine ⟨.inl (kv 0 t).2,?_,t,rfl,hsm,hid⟩
    have h2:i<n→¬ t.2.2.2.2.2.2.2.2.2.1<0:=fun h1 h=>hcond ⟨h1,h⟩
    obtain ⟨b1,b2,b3,b4,b5,b6,b7,⟨d1,d2,d3⟩,b9⟩:=t
    unfold iV kv
    dsimp only at *
    by_cases h1:i<n
    ·rw [aq h1,aE (h2 h1)]
     rfl
    ·rw [aE h1]
     rfl)
  (s:=kv 0 s) ⟨0,s,rfl,by omega,hn.1,w3,h0⟩ (by show (n - 0).toNat<_; omega)
 subst h2
 refine ⟨t,?_,h3,h4⟩
 refine (XZ (fun o:Option (ko⊕aF)=>o.bind _) h1).trans ?_
 rfl
theorem FW (x0 x1:List Int) (x2:Int) (x3:List Int) (x4 x5:Int) (h0 : ∀ x∈x0,qi x) (h1 : ∀ x∈x1,qi x) (h2:qi x2) (h3 : ∀ x∈x3,qi x) (h4:qi x4) (h5:qi x5):jd x0 x1 x2 x3 x4 x5=some true:=by
 unfold jd
 obtain ⟨c,hcc,hc1,hc2⟩:=MP x0 h0
 obtain ⟨e,he⟩:=ajt h2
 have hsc:=Qb hc1
 obtain ⟨cl,hcl,hcl2⟩:=XD hsc h1
 obtain ⟨r5,hr5,hr6,hr7⟩:=qH h4 (n:=40) (by omega) (by omega)
 obtain ⟨s,w1,w2,w3⟩:=aeP hsc e (l:=cl) (by omega) h3 ⟨hr6,hr7⟩
 simp only [hcc,he,hcl,hr5,w1,VG s w2,kD,f7,Zj]
 by_cases ho:(0:Int)≤s.2.2.2.2.2.2.2.2.2.1
 ·rw [aq ho]
  simp only [f9,CO,f7,Zj]
 rw [aE ho]
 have ho' : bj s<0:=by unfold bj; omega
 obtain ⟨hc,hpe,hid⟩:=w3 ho'
 obtain ⟨hnx,_⟩:=OF hc hpe hid ho'
 have hpos:=E1 hc e (rX hc hpe hid ho').2.2
 obtain ⟨_,_,n1,n2,n3⟩:=yw hc e hid.g.ok hid.g.sm ⟨hid.g.lo,hid.g.hi⟩
 rw [hnx] at n1
 injection n1 with n1
 injection n1 with n1 _
 rw [← n1] at n3
 obtain ⟨j,j1,j2,j3⟩:=qH h5 (n:=((eN c e s).2.2.2.length:Int)) (by omega) (by omega)
 obtain ⟨t,v,hS⟩:=abP hc hpe hid ho' ⟨j2,j3⟩
 have hv:v.length≤1000:=by have:=hS.n; omega
 have hw:=w2
 obtain ⟨_,_,c3,c4,_,c6,c7⟩:=hw
 have k1:=En hv (k:=0) c3 hS.nm.v
 have k2:=En hv (k:=2) c6 hS.nm.o
 have k3:=En hv (k:=3) c7 hS.nm.f
 have hql:(s.2.2.1.length:Int)=(t.2.2.1.length:Int):=by rw [hS.nm.q.1]
 simp only [no,hnx,f7,Zj,Zh,bf (show ¬ ((eN c e s).2.2.2.length:Int)=0 by omega),j1,hS.p,Xo,f9,k1,k2,k3,XO,nf hql]
 refine (XZ (fun o:Option (Unit⊕Bool)=>o.bind _) (M2 s (t,v,0) hv w2 hS.nm.q)).trans ?_
 simp only [f7,Zj,Zt s w2,VG s w2]
 obtain ⟨V,v1,v2⟩:=UH x5 (t,v,0) hv s c3
 refine (XZ (fun o:Option ko=>o.bind _) v1).trans ?_
 simp only [f7,Zj]
 obtain ⟨G,g1,g2⟩:=PF x5 (t,v,0) hv (vf V s.2.2.2.2.1 s) c7
 refine (XZ (fun o:Option ko=>o.bind _) g1).trans ?_
 simp only [f7,Zj]
 obtain ⟨a,b,d1,d2⟩:=hS.vf V G v2 g2
 refine (XZ (fun o:Option (aF×List bI×Int)=>o.bind _) d1).trans ?_
 obtain ⟨p,u,p1,_,p3⟩:=yw hc e hS.i.g.ok hS.i.g.sm ⟨hS.i.g.lo,hS.i.g.hi⟩
 have p2:=aeD hc e hS.i.g d2.g
 rw [p1] at p2
 have ha:=ahd v hv
 have hb:=aaC v hv
 have hpt:=RY p (by omega)
 have q1:(vf a b t).2.2.2.2.2.2.2.1=t.2.2.2.2.2.2.2.1:=rfl
 have q2:(vf a b t).2.2.2.2.2.2.2.2.2.1=t.2.2.2.2.2.2.2.2.2.1:=rfl
 simp only [f7,Zj,q1,q2,Zh,W9,no,acw,afx,XO,Xo,f9,ha,hb,p1,p2,ml,hpt,CO]
end Go.Proofs.YtfhhiajfciblbaaGreatDoor
