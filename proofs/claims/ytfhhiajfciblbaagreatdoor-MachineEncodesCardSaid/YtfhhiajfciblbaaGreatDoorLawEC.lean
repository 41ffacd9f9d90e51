/- Laws for the row. No condition. -/
import Derived.Test.YtfhhiajfciblbaaGreatDoorLawEB
namespace Go.Proofs.YtfhhiajfciblbaaGreatDoor
open Go.Sm
set_option linter.unusedVariables false
set_option maxRecDepth 4000
variable {s a b c d:aF}
structure GoodE(s:aF):Prop where
 e:EncS s
 o:dS s=some s
theorem A1{d:Nat}(hd:d<=5)(hz:SizeS d s)(hs:InS s):GoodE s:=⟨aoJ hd hz hs,anR s (HN hd hz)⟩
theorem R6(h:EncS s):(nG s).length<4611686018427387904:=by have:=CV h;omega
theorem akO{t:aF}(hs:EncS s)(ht:EncS t):decide (nG s=nG t)=M9 s t:=by
 by_cases h:s=t
 ·rw[Tk h,az (by rw[h])]
 ·rw[pS h,bN (λe=>h (agv hs ht e))]
theorem YI(hL:∀s∈[a,b,c,d,dJ],GoodE s){i:Nat}(hi:i<5):Itr.it (dw a b c d (i:Int)) 0=some (.inl ()):=by
 have hl5:([a,b,c,d,dJ]:List aF).length=5:=rfl;have hs:=hL _ (eE dJ (show i<([a,b,c,d,dJ]:List aF).length from hi));have hxs:ac ([a,b,c,d,dJ]:List aF) (i:Int)=some (([a,b,c,d,dJ]:List aF).getD i dJ):=aO dJ hi;rcases gG (f:=dw a b c d (i:Int)) 5 (by omega) (λ_=>True) (λ_=>.inr (.inr false))
  (λk hk _=>by
   left;refine⟨trivial,?_⟩;have ht:=hL _ (eE dJ (show k<([a,b,c,d,dJ]:List aF).length from hk));have hxt:ac ([a,b,c,d,dJ]:List aF) (k:Int)=some (([a,b,c,d,dJ]:List aF).getD k dJ):=aO dJ hk;unfold dw;rw[show(([]:List aj),([]:List Int),([]:List (List Int)),([]:List Int),([]:List Int),(0:Int),(0:Int),((0:Int),(0:Int),(0:Int)),(0:Int),(0:Int),(0:Int),([]:List UInt8))=dJ from rfl];generalize([a,b,c,d,dJ]:List aF)=L at *;generalize L.getD i dJ=s at *;generalize L.getD k dJ=t at *;have h1:=aqn hs.e t;have h2:=aoj hs.e t;have h3:=(tq hs.e).1;have h4:=(tq ht.e).1;have h5:=(jQ (nG s) (nG t) (R6 hs.e)).2.1;rw[akO hs.e ht.e]at h5;rw[az (show(k:Int)<(L.length:Int)by omega)];simp only[f9,hxs,hxt,f7,Qz2,hs.o,ht.o,h1,h2,adj,abR,h3,h4,h5,aax,aM (x:=(k:Int)+1) (by omega) (by omega)])
  (λ_=>by unfold dw;rfl)with⟨_,he⟩|⟨k,_,_,hP,_⟩
 ·exact he
 ·exact absurd trivial hP
theorem aaF(n:Nat)(v:List Int):ta n v v=true:=by unfold ta;simp
theorem apb(hL:∀s∈[a,b,c,d,dJ],GoodE s){i:Nat}(hi:i<5):ii a b c d (i:Int)=some (.inl ()):=by have hs:=hL _ (eE dJ (show i<([a,b,c,d,dJ]:List aF).length from hi));have hxs:ac ([a,b,c,d,dJ]:List aF) (i:Int)=some (([a,b,c,d,dJ]:List aF).getD i dJ):=aO dJ hi;have hloop:=YI hL hi;unfold ii;rw[show(([]:List aj),([]:List Int),([]:List (List Int)),([]:List Int),([]:List Int),(0:Int),(0:Int),((0:Int),(0:Int),(0:Int)),(0:Int),(0:Int),(0:Int),([]:List UInt8))=dJ from rfl];generalize([a,b,c,d,dJ]:List aF)=L at *;generalize L.getD i dJ=s at *;obtain⟨h3,h4⟩:=tq hs.e;have h5:=(jQ (nG s) (nG s) (R6 hs.e)).2.1;rw[az rfl]at h5;obtain⟨v,v1,v2⟩:=PM hs.e;simp only[hxs,f7,Qz2,hs.o,h3,h4,h5,acd,abR,f9,aax,v1,v2,aaF,hloop]
theorem X8(hL:∀s∈[a,b,c,d,dJ],GoodE s):Itr.it (du a b c d) 0=some (.inl ()):=by
 rcases gG (f:=du a b c d) 5 (by omega) (λ_=>True) (λ_=>false)
  (λk hk _=>by
   left;refine⟨trivial,?_⟩;unfold du;rw[az (by show(k:Int)<((5:Nat):Int);omega),f9,apb hL hk,aM (x:=(k:Int)+1) (by omega) (by omega)];rfl)
  (λ_=>by unfold du;rfl)with⟨_,he⟩|⟨k,_,_,hP,_⟩
 ·exact he
 ·exact absurd trivial hP
theorem OL(x0:List Int)(x1:Int)(x2:List Int)(x3 x4 x5:Int)(h0:∀x∈x0,aY x)(h1:aY x1)(h2:∀x∈x2,aY x)(h3:aY x3)(h4:aY x4)(h5:aY x5):jE x0 x1 x2 x3 x4 x5=some true:=by
 unfold jE;obtain⟨c,hcc,hc1,_,hc2⟩:=PG x0 h0;obtain⟨e,he⟩:=aov h1;obtain⟨r3,hr3,hr4⟩:=mf h3 (n:=40) (by omega) (by omega);obtain⟨r5,hr5,hr6⟩:=mf h5 (n:=40) (by omega) (by omega);obtain⟨s,w1,w2,w3⟩:=Q3 hc1 hc2 e h2 hr4;obtain⟨t,u1,u2,u3⟩:=Q3 hc1 hc2 e h2 hr6;obtain⟨p,p1,p2,p3⟩:=L4 (by omega) w2 w3 h4 h5;obtain⟨q,q1,q2,q3⟩:=L4 (by omega) p2 p3 h5 h4;simp only[hcc,he,hr3,w1,p1,q1,hr5,u1,f7,Qz2];refine(aba (λo:Option (Unit⊕Bool)=>o.bind _) (X8 (a:=s) (b:=p) (c:=q) (d:=t) λy hy=>?_)).trans ?_
 ·simp only[aaK,afu,akQ]at hy;rcases hy with rfl|rfl|rfl|rfl|rfl
  ·exact A1 (by omega) w2 w3
  ·exact A1 (by omega) p2 p3
  ·exact A1 (by omega) q2 q3
  ·exact A1 (by omega) u2 u3
  ·exact A1 (d:=0) (by omega) (KZ 0) ZH
 ·simp only[f7,Qz2,U1]
end Go.Proofs.YtfhhiajfciblbaaGreatDoor
