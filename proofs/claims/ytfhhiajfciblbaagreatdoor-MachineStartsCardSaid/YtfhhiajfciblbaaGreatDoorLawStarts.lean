/-
  Plain laws: the generator compiles in the end. No program is walked here.
-/
import Derived.Test.YtfhhiajfciblbaaGreatDoorLawG3
import Derived.Test.YtfhhiajfciblbaaGreatDoorLawM7
import Derived.KernelRfl
namespace Go.Proofs.YtfhhiajfciblbaaGreatDoor
open Go.Sm
set_option linter.unusedSimpArgs false
set_option linter.unusedVariables false
set_option linter.unusedSectionVars false
set_option maxRecDepth 4000
def Ef (l:List Df):Prop:=∀ i j,i<l.length→j<i→(l.getD j ([],[])).1≠(l.getD i ([],[])).1
section
variable (l:List Df) (hl:l.length≤24) (hg : ∀ d∈l,mq d)
include hl hg
theorem UO : ∃ k e,jJ l=some (k,e)∧(e=0→Ef l):=by
 unfold jJ
 rw [aQ (by omega),cond_false]
 rcases dH (f:=fX l) l.length (by omega) (fun i=>fp l (i:Int)=some 0) (fun i=>((i:Int),(fp l (i:Int)).getD 1))
  (fun i hi _=>by
   unfold fX
   obtain ⟨e,he,_⟩:=yt l hl hg hi
   simp only [aE (show (i:Int)<(l.length:Int) by omega),cond_true,he,Option.bind_some,aS (n:=l.length) (by omega) hi,Option.some.injEq,Option.getD_some]
   by_cases hz:e=0
   ·left
    rw [hz]
    exact ⟨rfl,rfl⟩
   ·right
    rw [nt hz]
    exact ⟨hz,rfl⟩)
  (fun _=>by unfold fX; rw [aQ (by omega)]; rfl) with ⟨hP,he⟩ | ⟨i,hi,_,hP,he⟩
 rotate_left
 ·rw [he]
  obtain ⟨e,he,_⟩:=yt l hl hg hi
  rw [he] at hP
  simp only [Option.bind_some,he,Option.getD_some]
  exact ⟨_,_,rfl,fun h=>absurd (by rw [h]) hP⟩
 rw [he]
 have huniq:Ef l:=by
  intro i j hi hj
  obtain ⟨e,he,h⟩:=yt l hl hg hi
  rw [hP i hi] at he
  cases he
  exact h rfl j hj
 simp only [Option.bind_some]
 obtain ⟨z2,hz2⟩:=tN (f:=fG l) l.length (by omega)
  (fun i hi=>by
   unfold fG
   obtain ⟨e,he⟩:=PE l hl hg hi
   simp only [aE (show (i:Int)<(l.length:Int) by omega),cond_true,he,Option.bind_some,aS (n:=l.length) (by omega) hi]
   cases e != 0
   ·exact .inr rfl
   ·exact .inl ⟨_,rfl⟩)
  ⟨_,by unfold fG; rw [aQ (by omega)]; rfl⟩
 obtain ⟨z3,hz3⟩:=tN (f:=fM l) l.length (by omega)
  (fun i hi=>by
   unfold fM
   obtain ⟨r,hr,hr2⟩:=zi l hl hg (l.getD i ([],[])).1 true
   obtain ⟨b,hb,_⟩:=yT r (by omega) (l.getD i ([],[])).1
   simp only [aE (show (i:Int)<(l.length:Int) by omega),cond_true,aD ([],[]) hi,hr,hb,Option.bind_some,aS (n:=l.length) (by omega) hi]
   cases b
   ·exact .inr rfl
   ·exact .inl ⟨_,rfl⟩)
  ⟨_,by unfold fM; rw [aQ (by omega)]; rfl⟩
 rw [hz2]
 rcases z2 with z2 | z2
 ·simp only [Option.bind_some,hz3]
  rcases z3 with z3 | z3
  ·exact ⟨_,_,rfl,fun _=>huniq⟩
  ·exact ⟨z3.1,z3.2,rfl,fun _=>huniq⟩
 ·exact ⟨z2.1,z2.2,rfl,fun _=>huniq⟩
theorem Ru (nm:gC) : ∃ s e,jD l nm=some (s,e)∧(e=0→Ef l∧(∀ d∈s,d∈l)∧s.length≤1537∧∃ d∈s,d.1=nm):=by
 unfold jD
 obtain ⟨k,e,hc,hc2⟩:=UO l hl hg
 rw [hc]
 simp only [Option.bind_some]
 by_cases he:e=0
 rotate_left
 ·rw [nt he]
  exact ⟨[],e,rfl,fun h=>absurd h he⟩
 rw [nf he,cond_false]
 rcases rg l (by omega) nm with ⟨q1,_⟩ | ⟨j,q1,q2,q3,_⟩
 ·rw [q1]
  exact ⟨[],6,rfl,fun h=>(by cases h)⟩
 rw [q1]
 simp only [Option.bind_some,aQ (show ¬ (j:Int)<0 by omega),cond_false]
 obtain ⟨r,hr,hr2⟩:=zi l hl hg nm false
 obtain ⟨r4,p1,p2,p3⟩:=PO r (by omega) nm
 rw [hr]
 simp only [Option.bind_some,p1]
 have h0:0<l.length:=by omega
 obtain ⟨z,hz1,hz2⟩:=fk (f:=i7 l r4) (fun s=>r4.length - s.2.toNat) (fun s=>∃ i:Nat,s.2=(i:Int)∧i≤r4.length∧s.1.length=i∧(∀ d∈s.1,d∈l)∧∀ k,k<i→r4.getD k []=nm→l.getD j ([],[])∈s.1) (fun s=>(∀ d∈s,d∈l)∧s.length≤r4.length∧l.getD j ([],[])∈s)
  (fun s hs=>by
   obtain ⟨o,s2⟩:=s
   obtain ⟨i,h1,hi,ho,hin,hk⟩:=hs
   dsimp only at h1 ho hin hk
   subst h1
   unfold i7
   rcases Nat.lt_or_ge i r4.length with hlt | hge
   ·right
    obtain ⟨ri,d,a1,a2,a3⟩:=uL l hl hg h0 (r4.getD i [])
    simp only [aE (show (i:Int)<(r4.length:Int) by omega),cond_true,aD [] hlt,Option.bind_some,a1,a3,aS (n:=r4.length) (by omega) hlt]
    rw [d8 (be (by simp only [List.length_singleton]; omega) (by omega))]
    refine ⟨_,rfl,⟨i+1,rfl,by omega,by simp [ho],fun d' hd' => ?_,fun k hk' hnm=>?_⟩,by dsimp only; omega⟩
    ·rcases List.mem_append.1 hd' with hd' | hd'
     ·exact hin d' hd'
     ·rw [List.mem_singleton.1 hd']; exact a2
    ·rcases Nat.lt_or_ge k i with hlt2 | hge2
     ·exact List.mem_append.2 (.inl (hk k hlt2 hnm))
     ·have:k=i:=by omega
      subst this
      rw [hnm,q1] at a1
      cases a1
      rw [if_neg (by omega),aD ([],[]) q2] at a3
      cases a3
      exact List.mem_append.2 (.inr (by simp))
   ·left
    have:i=r4.length:=by omega
    subst this
    simp only [aQ (show ¬ (r4.length:Int)<(r4.length:Int) by omega),cond_false]
    obtain ⟨k,hk1,hk2⟩:=List.mem_iff_getElem.1 ((p2 nm).2 (.inr rfl))
    exact ⟨_,rfl,hin,by omega,hk k hk1 (by simp [hk1,hk2])⟩) (s:=([],0)) ⟨0,rfl,by omega,rfl,fun d hd=>(by cases hd),fun k hk=>absurd hk (by omega)⟩ (by show r4.length - (0:Int).toNat<_; omega)
 rw [hz1]
 exact ⟨z,0,rfl,fun _=>⟨hc2 he,hz2.1,by have:=hz2.2.1; omega,_,hz2.2.2,q3⟩⟩
theorem aaS (hu:Ef l) {d d' : Df} (h:d∈l) (h' : d' ∈ l) (hn:d.1=d'.1):d=d' := by
 obtain ⟨i,hi,rfl⟩:=List.mem_iff_getElem.1 h
 obtain ⟨j,hj,rfl⟩:=List.mem_iff_getElem.1 h'
 rcases Nat.lt_trichotomy i j with hl | hl | hl
 ·have:=hu j i hj hl
  simp [hi,hj] at this
  exact absurd hn this
 ·subst hl; rfl
 ·have:=hu i j hi hl
  simp [hi,hj] at this
  exact absurd hn.symm this
end
section
variable (s:List Df) (hl:s.length≤1537) (hg : ∀ d∈s,mq d)
include hl hg
theorem P5 (nm:gC) : ∃ c,ji s nm=some c∧c.1=[]∧c.2.1=[]∧c.2.2.1=[]∧c.2.2.2.1.length≤98368∧c.2.2.2.2.1.length≤1537∧c.2.2.2.2.2.1.length≤1537∧c.2.2.2.2.2.2.1.length≤1537∧c.2.2.2.2.2.2.2.length≤1538 ∧
  ∀ x∈c.2.2.2.2.2.2.2,x=nm∨∃ d∈s,d.1=x∧∃ n u,GoodN d n u∧n.1=5:=by
 unfold ji
 obtain ⟨c,h1,h2⟩:=fk (f:=iz s) (fun y=>s.length - y.1.toNat)
  (fun y=>∃ i:Nat,y.1=(i:Int)∧i≤s.length∧y.2.1=[]∧y.2.2.1=[]∧y.2.2.2.1=[]∧y.2.2.2.2.1.length≤64 * i∧y.2.2.2.2.2.1.length≤i∧y.2.2.2.2.2.2.1.length≤i∧y.2.2.2.2.2.2.2.1.length≤i∧y.2.2.2.2.2.2.2.2.length≤i∧∀ x∈y.2.2.2.2.2.2.2.2,∃ d∈s,d.1=x∧∃ n u,GoodN d n u∧n.1=5)
  (fun c=>c.1=[]∧c.2.1=[]∧c.2.2.1=[]∧c.2.2.2.1.length≤64 * s.length∧c.2.2.2.2.1.length≤s.length∧c.2.2.2.2.2.1.length≤s.length∧c.2.2.2.2.2.2.1.length≤s.length∧c.2.2.2.2.2.2.2.length≤s.length∧∀ x∈c.2.2.2.2.2.2.2,∃ d∈s,d.1=x∧∃ n u,GoodN d n u∧n.1=5)
  (fun y hy=>by
   obtain ⟨y0,c1,c2,c3,c4,c5,c6,c7,c8⟩:=y
   obtain ⟨i,h1,hi,e1,e2,e3,b4,b5,b6,b7,b8,hx⟩:=hy
   dsimp only at h1 e1 e2 e3 b4 b5 b6 b7 b8 hx
   subst h1 e1 e2 e3
   unfold iz
   rcases Nat.lt_or_ge i s.length with hlt | hge
   ·right
    have hmem:s.getD i ([],[])∈s:=by simp [hlt]
    obtain ⟨n,u,g⟩:=hg _ hmem
    have hk:=g.kids
    have hp : ∃ c:ao,jR s ((i:Int),[],[],[],c4,c5,c6,c7,c8)=some c∧c.1=[]∧c.2.1=[]∧c.2.2.1=[]∧c.2.2.2.1.length≤64 * (i+1)∧c.2.2.2.2.1.length≤i+1∧c.2.2.2.2.2.1.length≤i+1∧c.2.2.2.2.2.2.1.length≤i+1∧c.2.2.2.2.2.2.2.length≤i+1∧∀ x∈c.2.2.2.2.2.2.2,∃ d∈s,d.1=x∧∃ n u,GoodN d n u∧n.1=5:=by
     unfold jR
     simp only [aD ([],[]) hlt,Option.bind_some,g.parse]
     by_cases h0:n.1=0
     ·obtain ⟨r,q1,q2⟩:=JZ c4 (by omega) (n.2.1,n.2.2.1)
      rw [bt h0,cond_true,q1]
      exact ⟨_,rfl,rfl,rfl,rfl,by dsimp only; omega,by dsimp only; omega,by dsimp only; omega,by dsimp only; omega,by dsimp only; omega,hx⟩
     rw [bf h0,cond_false]
     by_cases h1:n.1=1
     ·rw [bt h1,cond_true]
      obtain ⟨c,w1,w2⟩:=fk (f:=iF (n,0,0)) (fun y=>n.2.2.2.length - y.1.toNat)
       (fun y=>∃ (k:Nat) (v:List (gC×Int)),y=((k:Int),[],[],[],v,c5,c6,c7,c8)∧k≤n.2.2.2.length∧v.length=c4.length+k)
       (fun c=>∃ v:List (gC×Int),c=([],[],[],v,c5,c6,c7,c8)∧v.length=c4.length+n.2.2.2.length)
       (fun y hy=>by
        obtain ⟨k,v,rfl,hk1,hv⟩:=hy
        unfold iF
        rcases Nat.lt_or_ge k n.2.2.2.length with hlt2 | hge2
        ·right
         have hkl:=g.lens _ (show n.2.2.2.getD k (Nd.mk 0 [] 0 [])∈n.2.2.2 by simp [hlt2])
         have hnl:=g.len
         obtain ⟨r,q1,q2⟩:=JZ v (by omega) ((n.2.1++kC)++(n.2.2.2.getD k (Nd.mk 0 [] 0 [])).tup.2.1,(n.2.2.2.getD k (Nd.mk 0 [] 0 [])).tup.2.2.1)
         have hS:kC.length=1:=rfl
         simp only [aE (show (k:Int)<(n.2.2.2.length:Int) by omega),cond_true,aD (Nd.mk 0 [] 0 []) hlt2,Option.bind_some,ah,aE (show n.2.1.length+kC.length≤9223372036854775807 by omega),aE (show (n.2.1++kC).length+(n.2.2.2.getD k (Nd.mk 0 [] 0 [])).tup.2.1.length≤9223372036854775807 by simp only [List.length_append]; omega),q1,aS (n:=n.2.2.2.length) (by omega) hlt2]
         exact ⟨_,rfl,⟨k+1,r,rfl,by omega,by omega⟩,by dsimp only; omega⟩
        ·left
         simp only [aQ (show ¬ (k:Int)<(n.2.2.2.length:Int) by omega),cond_false]
         exact ⟨_,rfl,v,rfl,by omega⟩) (s:=(0,[],[],[],c4,c5,c6,c7,c8)) ⟨0,c4,rfl,by omega,by omega⟩ (by show n.2.2.2.length - (0:Int).toNat<_; omega)
      obtain ⟨v,rfl,hv⟩:=w2
      exact ⟨_,w1,rfl,rfl,rfl,by dsimp only; omega,by dsimp only; omega,by dsimp only; omega,by dsimp only; omega,by dsimp only; omega,hx⟩
     rw [bf h1,cond_false]
     by_cases h2:n.1=2
     ·rw [bt h2,cond_true,d8 (be (by simp only [List.length_singleton]; omega) (by omega))]
      exact ⟨_,rfl,rfl,rfl,rfl,by dsimp only; omega,by simp only [List.length_append,List.length_singleton]; omega,by dsimp only; omega,by dsimp only; omega,by dsimp only; omega,hx⟩
     rw [bf h2,cond_false]
     by_cases h3:n.1=3
     ·rw [bt h3,cond_true,d8 (be (by simp only [List.length_singleton]; omega) (by omega))]
      exact ⟨_,rfl,rfl,rfl,rfl,by dsimp only; omega,by dsimp only; omega,by simp only [List.length_append,List.length_singleton]; omega,by dsimp only; omega,by dsimp only; omega,hx⟩
     rw [bf h3,cond_false]
     by_cases h4:n.1=4
     ·rw [bt h4,cond_true,d8 (be (by simp only [List.length_singleton]; omega) (by omega))]
      exact ⟨_,rfl,rfl,rfl,rfl,by dsimp only; omega,by dsimp only; omega,by dsimp only; omega,by simp only [List.length_append,List.length_singleton]; omega,by dsimp only; omega,hx⟩
     rw [bf h4,cond_false]
     by_cases h5:n.1=5
     ·rw [bt h5,cond_true,d8 (be (by simp only [List.length_singleton]; omega) (by omega))]
      refine ⟨_,rfl,rfl,rfl,rfl,by dsimp only; omega,by dsimp only; omega,by dsimp only; omega,by dsimp only; omega,by simp only [List.length_append,List.length_singleton]; omega,fun x hxm=>?_⟩
      rcases List.mem_append.1 hxm with hxm | hxm
      ·exact hx x hxm
      ·rw [List.mem_singleton.1 hxm]
       exact ⟨_,hmem,g.name.symm,n,u,g,h5⟩
     rw [bf h5,cond_false]
     exact ⟨_,rfl,rfl,rfl,rfl,by dsimp only; omega,by dsimp only; omega,by dsimp only; omega,by dsimp only; omega,by dsimp only; omega,hx⟩
    obtain ⟨c,hp1,hp2,hp3,hp4,hp5,hp6,hp7,hp8,hp9,hp10⟩:=hp
    simp only [aE (show (i:Int)<(s.length:Int) by omega),cond_true,hp1,Option.bind_some,aS (n:=s.length) (by omega) hlt]
    exact ⟨_,rfl,⟨i+1,rfl,by omega,hp2,hp3,hp4,hp5,hp6,hp7,hp8,hp9,hp10⟩,by dsimp only; omega⟩
   ·left
    simp only [aQ (show ¬ (i:Int)<(s.length:Int) by omega),cond_false]
    exact ⟨_,rfl,rfl,rfl,rfl,by dsimp only; omega,by dsimp only; omega,by dsimp only; omega,by dsimp only; omega,by dsimp only; omega,hx⟩)
  (s:=(0,[],[],[],[],[],[],[],[])) ⟨0,rfl,by omega,rfl,rfl,rfl,by simp,by simp,by simp,by simp,by simp,fun x hx=>(by cases hx)⟩ (by show s.length - (0:Int).toNat<_; omega)
 obtain ⟨p1,p2,p3,p4,p5,p6,p7,p8,p9⟩:=h2
 rw [h1]
 simp only [Option.bind_some]
 rw [d8 (be (by simp only [List.length_singleton]; omega) (by omega))]
 refine ⟨_,rfl,p1,p2,p3,by dsimp only; omega,by dsimp only; omega,by dsimp only; omega,by dsimp only; omega,by simp only [List.length_append,List.length_singleton]; omega,fun x hx=>?_⟩
 rcases List.mem_append.1 hx with hx | hx
 ·exact .inr (p9 x hx)
 ·exact .inl (List.mem_singleton.1 hx)
end
open Go.Sm
set_option linter.unusedSimpArgs false
set_option linter.unusedVariables false
set_option maxRecDepth 4000
def xd (c:ao):Prop:=c.2.1.length≤100000∧c.2.2.1.length≤100000∧c.2.2.2.1.length≤100000∧c.2.2.2.2.1.length≤100000∧c.2.2.2.2.2.1.length≤100000∧c.2.2.2.2.2.2.1.length≤100000∧c.2.2.2.2.2.2.2.length≤100000
theorem zT {c:ao} (h:xd c):dD c:=by
 obtain ⟨h1,h2,h3,h4,h5,h6,h7⟩:=h
 exact ⟨by omega,by omega,by omega,by omega,by omega,by omega,by omega⟩
theorem sv:xd ([],[],[],[],[],[],[],[]):=⟨by simp,by simp,by simp,by simp,by simp,by simp,by simp⟩
theorem aaD {s:List Df} {d:Df} {n:Tn} {u:List aW} (hs:s.length≤1537) (g:GoodN d n u) (hk:n.1=5∨n.1=6) {i:Nat} {m:Mk} {j:Nat} (hi:i<m.1.2.2.2.2.2.2.2.length) (hj:bB s (m.1.2.2.2.2.2.2.2.getD i [])=some (j:Int)) (hjl:j<s.length) (hd:s.getD j ([],[])=d)
  (h1:m.1.1.length≤401 * i) (h2:m.1.2.1.length≤i) (h3:m.1.2.2.1.length≤i) (h4:m.1.2.2.2.1.length≤98368) (h5:m.1.2.2.2.2.1.length≤1537) (h6:m.1.2.2.2.2.2.1.length≤1537) (h7:m.1.2.2.2.2.2.2.1.length≤1537) (h8:m.1.2.2.2.2.2.2.2.length≤1538) :
  ∃ m' : Mk,jt (ky (i:Int) m) (s,0)=some (ky 0 m').2∧m'.1.1.length≤401 * (i+1)∧m'.1.2.1.length≤i+1∧m'.1.2.2.1.length≤i+1∧m'.1.2.2.2=m.1.2.2.2:=by
 obtain ⟨k,r,bm,bb,e1,e2,e3,e4,e5⟩:=g.proc hk
 unfold jt
 simp only [ky,aD [] hi,Option.bind_some,hj,aD ([],[]) hjl,hd,g.parse]
 rw [d8 (be (by simp only [List.length_singleton]; omega) (by omega))]
 obtain ⟨m1,a1,a2⟩:=qJ 64 ((m.1.1,m.1.2.1++([(m.1.1.length:Int)]:List Int),m.1.2.2.1,m.1.2.2.2.1,m.1.2.2.2.2.1,m.1.2.2.2.2.2.1,m.1.2.2.2.2.2.2.1,m.1.2.2.2.2.2.2.2),([]:List gC),0) n bm e2
  ⟨by dsimp only; omega,by dsimp only [List.length_nil]; omega,by dsimp only; omega,by dsimp only; omega,by dsimp only; omega,by dsimp only; omega,by dsimp only; omega⟩
 rw [show jA _ _=some m1 from a1]
 obtain ⟨c1,c2,c3,c4⟩:=a2
 dsimp only [List.length_nil] at c1 c2 c3 c4
 obtain ⟨m2,d1,d2⟩:=UD 64 m1 k.tup bb e3 ⟨by omega,by omega,by rw [c1]; dsimp only; omega,by rw [c1]; dsimp only; omega,by rw [c1]; dsimp only; omega,by rw [c1]; dsimp only; omega,by rw [c1]; dsimp only; omega⟩
 simp only [Option.bind_some,e1,tf]
 rw [show iW m1 (k.tup.1,k.tup.2.1,k.tup.2.2.1,k.tup.2.2.2)=some m2 from d1]
 simp only [Option.bind_some]
 obtain ⟨f1,f2,f3,f4⟩:=d2
 have g2:m2.1.2=(m.1.2.1++([(m.1.1.length:Int)]:List Int),m.1.2.2):=f1.trans c1
 have he : ∃ m3:Mk,(bif decide ((ad ((i:Int)+(1:Int)))<(m2.1.2.2.2.2.2.2.2.length:Int)) then (ay m2 13 0 0).bind fun r21=>some (ky 0 r21).2 else (ay m2 28 0 0).bind fun r22=>some (ky 0 r22).2)=some (ky 0 m3).2∧Gw 1 m2 m3:=by
  have room:mE m2 1:=⟨by omega,by omega,by rw [g2]; dsimp only; omega,by rw [g2]; dsimp only; omega,by rw [g2]; dsimp only; omega,by rw [g2]; dsimp only; omega,by rw [g2]; dsimp only; omega⟩
  cases decide ((ad ((i:Int)+(1:Int)))<(m2.1.2.2.2.2.2.2.2.length:Int))
  ·obtain ⟨m3,q1,q2,_⟩:=kr room 28 0 0
   exact ⟨m3,by rw [q1]; rfl,q2⟩
  ·obtain ⟨m3,q1,q2,_⟩:=kr room 13 0 0
   exact ⟨m3,by rw [q1]; rfl,q2⟩
 obtain ⟨m3,q1,q2⟩:=he
 obtain ⟨p1,p2,p3,p4⟩:=q2
 have g3:=p1.trans g2
 have l2:m3.1.2.1.length=m.1.2.1.length+1:=by rw [g3]; simp
 have l3:m3.1.2.2.1=m.1.2.2.1:=by rw [g3]
 have l4:m3.1.2.2.2=m.1.2.2.2:=by rw [g3]
 refine ⟨((m3.1.1,m3.1.2.1,m3.1.2.2.1++([(m3.2.1.length:Int)]:List Int),m3.1.2.2.2),m3.2),?_,by dsimp only; omega,by dsimp only; omega,by dsimp only; rw [l3]; simp only [List.length_append,List.length_singleton]; omega,l4⟩
 refine (congrArg (fun z:Option zU=>z.bind _) q1).trans ?_
 simp only [Option.bind_some,ky]
 rw [d8 (be (by rw [l3]; simp only [List.length_singleton]; omega) (by omega))]
theorem Lp (l:List Df) (hl:l.length≤24) (hg : ∀ d∈l,mq d) (nm:gC) : ∃ c e,fQ l nm=some (c,e)∧xd c∧c.1.length≤512:=by
 unfold fQ
 obtain ⟨s,e,hs,hs2⟩:=Ru l hl hg nm
 rw [hs]
 simp only [Option.bind_some]
 by_cases he:e=0
 rotate_left
 ·rw [nt he]
  exact ⟨_,_,rfl,sv,by simp⟩
 obtain ⟨hu,hsl,hsn,d0,hd0,hd0n⟩:=hs2 he
 subst he
 simp only [bne_self_eq_false,cond_false]
 have hgs : ∀ d∈s,mq d:=fun d hd=>hg d (hsl d hd)
 have bL : ∀ d∈s,∃ j:Nat,bB s d.1=some (j:Int)∧j<s.length∧s.getD j ([],[])=d:=by
  intro d hd
  rcases rg s (by omega) d.1 with ⟨q1,q2⟩ | ⟨j,q1,q2,q3,_⟩
  ·obtain ⟨k,hk,rfl⟩:=List.mem_iff_getElem.1 hd
   exact absurd (by simp [hk]) (q2 k hk)
  ·exact ⟨j,q1,q2,aaS l hl hg hu (hsl _ (by simp [q2])) (hsl d hd) q3⟩
 obtain ⟨j0,i1,i2,i3⟩:=bL d0 hd0
 rw [hd0n] at i1
 obtain ⟨n0,u0,g0⟩:=hgs d0 hd0
 rw [i1]
 simp only [Option.bind_some,aD ([],[]) i2,i3,g0.parse]
 by_cases h6:n0.1=6
 rotate_left
 ·rw [nt h6]
  exact ⟨_,_,rfl,sv,by simp⟩
 rw [nf h6,cond_false]
 obtain ⟨c,t1,t2,t3,t4,t5,t6,t7,t8,t9,t10⟩:=P5 s hsn hgs nm
 rw [t1]
 simp only [Option.bind_some]
 obtain ⟨z,z1,z2⟩:=fk (f:=ig (s,0)) (fun y=>c.2.2.2.2.2.2.2.length - y.1.toNat)
  (fun y=>∃ (i:Nat) (m:Mk),y=ky (i:Int) m∧i≤c.2.2.2.2.2.2.2.length∧m.1.1.length≤401 * i∧m.1.2.1.length≤i∧m.1.2.2.1.length≤i∧m.1.2.2.2=c.2.2.2)
  (fun r=>∃ m:Mk,r=(ky 0 m).2∧m.1.2.1.length≤1538∧m.1.2.2.1.length≤1538∧m.1.2.2.2=c.2.2.2)
  (fun y hy=>by
   obtain ⟨i,m,rfl,hi,b1,b2,b3,b4⟩:=hy
   have bn:m.1.2.2.2.2.2.2.2=c.2.2.2.2.2.2.2:=by rw [b4]
   unfold ig
   rcases Nat.lt_or_ge i c.2.2.2.2.2.2.2.length with hlt | hge
   ·right
    have hx:=t10 (c.2.2.2.2.2.2.2.getD i []) (by simp [hlt])
    have hfind : ∃ (d:Df) (n:Tn) (u:List aW) (j:Nat),GoodN d n u∧(n.1=5∨n.1=6)∧bB s (c.2.2.2.2.2.2.2.getD i [])=some (j:Int)∧j<s.length∧s.getD j ([],[])=d:=by
     rcases hx with hx | ⟨d,hd,hdn,n,u,g,h5⟩
     ·rw [hx]
      exact ⟨d0,n0,u0,j0,g0, .inr h6,i1,i2,i3⟩
     ·obtain ⟨j,q1,q2,q3⟩:=bL d hd
      rw [← hdn]
      exact ⟨d,n,u,j,g, .inl h5,q1,q2,q3⟩
    obtain ⟨d,n,u,j,g,hk,q1,q2,q3⟩:=hfind
    obtain ⟨m',v1,v2,v3,v4,v5⟩:=aaD hsn g hk (i:=i) (m:=m) (by rw [bn]; exact hlt) (by rw [bn]; exact q1) q2 q3 b1 b2 b3 (by rw [b4]; exact t5) (by rw [b4]; exact t6) (by rw [b4]; exact t7) (by rw [b4]; exact t8) (by rw [b4]; exact t9)
    refine ⟨ky ((i+1:Nat):Int) m',?_,⟨i+1,m',rfl,by omega,v2,v3,v4,v5.trans b4⟩,by show _ - ((i+1:Nat):Int).toNat<_ - (i:Int).toNat; omega⟩
    rw [v1]
    simp only [ky,bn,show (i:Int)<(c.2.2.2.2.2.2.2.length:Int) by omega,decide_true,cond_true,Option.bind_some,aS (n:=c.2.2.2.2.2.2.2.length) (by omega) hlt]
    rfl
   ·left
    have:i=c.2.2.2.2.2.2.2.length:=by omega
    subst this
    refine ⟨(ky 0 m).2,?_,m,rfl,by omega,by omega,b4⟩
    simp only [ky,bn,Int.lt_irrefl,decide_false,cond_false]) (s:=ky 0 (c,[],0)) ⟨0,(c,[],0),rfl,by omega,by rw [t2]; simp,by rw [t3]; simp,by rw [t4]; simp,rfl⟩ (by show c.2.2.2.2.2.2.2.length - (0:Int).toNat<_; omega)
 obtain ⟨m,rfl,b2,b3,b4⟩:=z2
 by_cases h512:(512:Int)<(m.1.1.length:Int)
 ·refine ⟨([],[],[],[],[],[],[],[]),4,(congrArg (fun z:Option zU=>z.bind _) z1).trans ?_,sv,by simp⟩
  simp only [Option.bind_some,ky,h512,decide_true,cond_true]
 ·refine ⟨m.1,0,(congrArg (fun z:Option zU=>z.bind _) z1).trans ?_,⟨by omega,by omega,by rw [b4]; omega,by rw [b4]; omega,by rw [b4]; omega,by rw [b4]; omega,by rw [b4]; omega⟩,by omega⟩
  simp only [Option.bind_some,ky,h512,decide_false,cond_false]
open Go.Sm
set_option linter.unusedSimpArgs false
set_option linter.unusedVariables false
set_option maxRecDepth 100000
def eY (kind i v:Int):Bool:=match bS kind i v with
 | some p=>p.all C9&&Nat.ble p.length 6
 | none=>false
def io (kind:Int) (n:Nat):Bool:=[0,1,2].all fun i=>(List.range n).all fun v=>eY kind i (v:Int)
theorem aej:io 0 8=true:=by kernel_rfl
theorem adO:io 1 8=true:=by kernel_rfl
theorem aes:io 2 8=true:=by kernel_rfl
theorem aex:io 3 8=true:=by kernel_rfl
theorem adW:io 4 8=true:=by kernel_rfl
theorem aed:io 5 8=true:=by kernel_rfl
theorem aew:io 6 3=true:=by kernel_rfl
theorem adQ:io 7 3=true:=by kernel_rfl
theorem aev:io 8 2=true:=by kernel_rfl
theorem aeh:io 9 2=true:=by kernel_rfl
theorem ab0:io 10 3=true:=by kernel_rfl
theorem ads:io 11 3=true:=by kernel_rfl
theorem acl:io 12 3=true:=by kernel_rfl
theorem aco:io 13 18=true:=by kernel_rfl
theorem Ix:C9 (mW,jp)=true:=by kernel_rfl
open Go.Sm
set_option linter.unusedSimpArgs false
set_option linter.unusedVariables false
set_option linter.unusedSectionVars false
set_option maxRecDepth 4000
theorem zq (v n:Nat):Int.tmod (v:Int) (n:Int)=((v % n:Nat):Int):=by
 rw [Int.tmod_eq_emod_of_nonneg (by omega)]
 rfl
theorem KB (v n:Nat):Int.tdiv (v:Int) (n:Int)=((v / n:Nat):Int):=by
 rw [Int.tdiv_eq_ediv_of_nonneg (by omega)]
 rfl
theorem zh (v:Nat):Int.tmod (v:Int) 2=((v % 2:Nat):Int):=zq v 2
theorem Ht (v:Nat):Int.tmod (v:Int) 3=((v % 3:Nat):Int):=zq v 3
theorem tm4 (v:Nat):Int.tmod (v:Int) 4=((v % 4:Nat):Int):=zq v 4
theorem tm9 (v:Nat):Int.tmod (v:Int) 9=((v % 9:Nat):Int):=zq v 9
theorem td2 (v:Nat) (h:v<4096):ad (Int.tdiv (v:Int) 2)=((v / 2:Nat):Int):=by
 rw [show Int.tdiv (v:Int) 2=((v / 2:Nat):Int) from KB v 2]
 exact bi (by omega) (by omega)
theorem td9 (v:Nat) (h:v<4096):ad (Int.tdiv (v:Int) 9)=((v / 9:Nat):Int):=by
 rw [show Int.tdiv (v:Int) 9=((v / 9:Nat):Int) from KB v 9]
 exact bi (by omega) (by omega)
theorem ml (k i:Int) {v w:Nat} (hv:v<4096) (hw:w<4096) (h1:v % 2=w % 2) (h2:v / 2 % 4=w / 2 % 4):bT k i (v:Int)=bT k i (w:Int):=by
 have h3:v / 2 % 2=w / 2 % 2:=by omega
 unfold bT
 simp only [zh,tm4,td2 v hv,td2 w hw,h1,h2,h3]
theorem gY {kind:Int} {n:Nat} (h:io kind n=true) {i r:Nat} (hi:i<3) (hr:r<n):eY kind (i:Int) (r:Int)=true:=by
 unfold io at h
 have h1:=List.all_eq_true.1 h (i:Int) (by
  have:i=0∨i=1∨i=2:=by omega
  rcases this with rfl | rfl | rfl <;> simp)
 exact List.all_eq_true.1 h1 r (List.mem_range.2 hr)
theorem jB (k i v:Int) (hk:k=0∨k=1∨k=2∨k=3∨k=4∨k=5):bS k i v=bT k i v:=by
 unfold bS bh
 rcases hk with rfl | rfl | rfl | rfl | rfl | rfl <;> simp only [Int.reduceBEq,cond_true,cond_false,Option.bind_some]
 ·cases bT 0 i v <;> rfl
 ·cases bT 1 i v <;> rfl
 ·cases bT 2 i v <;> rfl
 ·cases bT 3 i v <;> rfl
 ·cases bT 4 i v <;> rfl
 ·cases bT 5 i v <;> rfl
theorem rE (k i v w:Int) (h:bh k i v=bh k i w) (hn:bh k i w≠some (.inl ())):bS k i v=bS k i w:=by
 unfold bS
 rw [h]
 cases hp:bh k i w with
 | none=>rfl
 | some z=>
  rcases z with z | z
  ·exact absurd hp hn
  ·rfl
theorem q7 (k i w:Int) (hk:k=6∨k=7∨k=8∨k=9∨k=10∨k=11∨k=12):bh k i w≠some (.inl ()):=by
 intro hp
 unfold bh at hp
 rcases hk with rfl | rfl | rfl | rfl | rfl | rfl | rfl <;> simp [ah,Bool.cond_eq_ite,Option.bind_eq_some_iff] at hp
section
variable {i v:Nat} (hi:i<3) (hv:v<4096)
include hi hv
theorem aeX:eY 0 (i:Int) (v:Int)=true:=by
 rw [← gY aej hi (show v % 8<8 by omega)]
 unfold eY
 rw [jB _ _ _ (by omega),jB _ _ _ (by omega),ml 0 (i:Int) (w:=v % 8) hv (by omega) (by omega) (by omega)]
theorem aeR:eY 1 (i:Int) (v:Int)=true:=by
 rw [← gY adO hi (show v % 8<8 by omega)]
 unfold eY
 rw [jB _ _ _ (by omega),jB _ _ _ (by omega),ml 1 (i:Int) (w:=v % 8) hv (by omega) (by omega) (by omega)]
theorem ae5:eY 2 (i:Int) (v:Int)=true:=by
 rw [← gY aes hi (show v % 8<8 by omega)]
 unfold eY
 rw [jB _ _ _ (by omega),jB _ _ _ (by omega),ml 2 (i:Int) (w:=v % 8) hv (by omega) (by omega) (by omega)]
theorem aeS:eY 3 (i:Int) (v:Int)=true:=by
 rw [← gY aex hi (show v % 8<8 by omega)]
 unfold eY
 rw [jB _ _ _ (by omega),jB _ _ _ (by omega),ml 3 (i:Int) (w:=v % 8) hv (by omega) (by omega) (by omega)]
theorem ae0:eY 4 (i:Int) (v:Int)=true:=by
 rw [← gY adW hi (show v % 8<8 by omega)]
 unfold eY
 rw [jB _ _ _ (by omega),jB _ _ _ (by omega),ml 4 (i:Int) (w:=v % 8) hv (by omega) (by omega) (by omega)]
theorem aeZ:eY 5 (i:Int) (v:Int)=true:=by
 rw [← gY aed hi (show v % 8<8 by omega)]
 unfold eY
 rw [jB _ _ _ (by omega),jB _ _ _ (by omega),ml 5 (i:Int) (w:=v % 8) hv (by omega) (by omega) (by omega)]
theorem aeW:eY 6 (i:Int) (v:Int)=true:=by
 rw [← gY aew hi (show v % 3<3 by omega)]
 unfold eY
 have e1:v % 3 % 3=v % 3:=by omega
 rw [rE 6 (i:Int) (v:Int) ((v % 3:Nat):Int) (by unfold bh; simp only [Int.reduceBEq,cond_true,cond_false,Option.bind_some,zh,Ht,e1]) (q7 _ _ _ (by omega))]
theorem aeY:eY 7 (i:Int) (v:Int)=true:=by
 rw [← gY adQ hi (show v % 3<3 by omega)]
 unfold eY
 have e1:v % 3 % 3=v % 3:=by omega
 rw [rE 7 (i:Int) (v:Int) ((v % 3:Nat):Int) (by unfold bh; simp only [Int.reduceBEq,cond_true,cond_false,Option.bind_some,zh,Ht,e1]) (q7 _ _ _ (by omega))]
theorem aeT:eY 8 (i:Int) (v:Int)=true:=by
 rw [← gY aev hi (show v % 2<2 by omega)]
 unfold eY
 have e1:v % 2 % 2=v % 2:=by omega
 rw [rE 8 (i:Int) (v:Int) ((v % 2:Nat):Int) (by unfold bh; simp only [Int.reduceBEq,cond_true,cond_false,Option.bind_some,zh,Ht,e1]) (q7 _ _ _ (by omega))]
theorem ae2:eY 9 (i:Int) (v:Int)=true:=by
 rw [← gY aeh hi (show v % 2<2 by omega)]
 unfold eY
 have e1:v % 2 % 2=v % 2:=by omega
 rw [rE 9 (i:Int) (v:Int) ((v % 2:Nat):Int) (by unfold bh; simp only [Int.reduceBEq,cond_true,cond_false,Option.bind_some,zh,Ht,e1]) (q7 _ _ _ (by omega))]
theorem adU:eY 10 (i:Int) (v:Int)=true:=by
 rw [← gY ab0 hi (show v % 3<3 by omega)]
 unfold eY
 have e1:v % 3 % 3=v % 3:=by omega
 rw [rE 10 (i:Int) (v:Int) ((v % 3:Nat):Int) (by unfold bh; simp only [Int.reduceBEq,cond_true,cond_false,Option.bind_some,zh,Ht,e1]) (q7 _ _ _ (by omega))]
theorem ad0:eY 11 (i:Int) (v:Int)=true:=by
 rw [← gY ads hi (show v % 3<3 by omega)]
 unfold eY
 have e1:v % 3 % 3=v % 3:=by omega
 rw [rE 11 (i:Int) (v:Int) ((v % 3:Nat):Int) (by unfold bh; simp only [Int.reduceBEq,cond_true,cond_false,Option.bind_some,zh,Ht,e1]) (q7 _ _ _ (by omega))]
theorem adZ:eY 12 (i:Int) (v:Int)=true:=by
 rw [← gY acl hi (show v % 3<3 by omega)]
 unfold eY
 have e1:v % 3 % 3=v % 3:=by omega
 rw [rE 12 (i:Int) (v:Int) ((v % 3:Nat):Int) (by unfold bh; simp only [Int.reduceBEq,cond_true,cond_false,Option.bind_some,zh,Ht,e1]) (q7 _ _ _ (by omega))]
theorem aeo:eY 13 (i:Int) (v:Int)=true:=by
 rw [← gY aco hi (show v % 18<18 by omega)]
 unfold eY
 have e1:v % 18 % 9=v % 9:=by omega
 have e2:v % 18 / 9 % 2=v / 9 % 2:=by omega
 have e3:bS 13 (i:Int) (v:Int)=bS 13 (i:Int) ((v % 18:Nat):Int):=by
  unfold bS bh
  simp only [Int.reduceBEq,cond_true,cond_false,Option.bind_some,zh,tm9,td9 v hv,td9 (v % 18) (by omega),e1,e2]
 rw [e3]
end
theorem adl {k i v:Nat} (hk:k<14) (hi:i<3) (hv:v<4096) : ∃ p,bS (k:Int) (i:Int) (v:Int)=some p∧(∀ d∈p,mq d)∧p.length≤6:=by
 have h:eY (k:Int) (i:Int) (v:Int)=true:=by
  have:k=0∨k=1∨k=2∨k=3∨k=4∨k=5∨k=6∨k=7∨k=8∨k=9∨k=10∨k=11∨k=12∨k=13:=by omega
  rcases this with rfl | rfl | rfl | rfl | rfl | rfl | rfl | rfl | rfl | rfl | rfl | rfl | rfl | rfl
  ·exact aeX hi hv
  ·exact aeR hi hv
  ·exact ae5 hi hv
  ·exact aeS hi hv
  ·exact ae0 hi hv
  ·exact aeZ hi hv
  ·exact aeW hi hv
  ·exact aeY hi hv
  ·exact aeT hi hv
  ·exact ae2 hi hv
  ·exact adU hi hv
  ·exact ad0 hi hv
  ·exact adZ hi hv
  ·exact aeo hi hv
 unfold eY at h
 split at h
 ·rename_i p hp
  simp only [Bool.and_eq_true] at h
  exact ⟨p,hp,fun d hd=>IW (List.all_eq_true.1 h.1 d hd),Nat.le_of_ble_eq_true h.2⟩
 ·cases h
def lw (x:Int):Prop:=-9223372036854775808≤x∧x≤9223372036854775807
theorem dJ {x n:Int} (hx:lw x) (hn:0<n) (hn2:n≤9223372036854775807) : ∃ r,aZ x n=some r∧0≤r∧r<n:=by
 unfold aZ
 obtain ⟨h1,h2⟩:=hx
 have fin : ∀ y:Int,0≤y→∃ r,(some y:Option Int).bind (fun s1=>ah (!(n==0)) (some (Int.tmod s1 n)))=some r∧0≤r∧r<n:=by
  intro y hy
  refine ⟨Int.tmod y n,?_,?_,?_⟩
  ·simp only [Option.bind_some]
   rw [d8 (by rw [show (n==0)=false by simp only [beq_eq_false_iff_ne]; omega]; rfl)]
  ·rw [Int.tmod_eq_emod_of_nonneg hy]; exact Int.emod_nonneg _ (by omega)
  ·rw [Int.tmod_eq_emod_of_nonneg hy]; exact Int.emod_lt_of_pos _ hn
 by_cases hz:x<0
 ·rw [aE hz,cond_true]
  refine fin _ ?_
  rw [bi (x:=x+1) (by omega) (by omega),bi (by omega) (by omega)]
  omega
 ·rw [aQ hz,cond_false]
  exact fin _ (by omega)
theorem at_ok {l:List Int} (hl : ∀ x∈l,lw x) (i:Int) {n:Int} (hn:0<n) (hn2:n≤9223372036854775807) : ∃ r,hU l i n=some r∧0≤r∧r<n:=by
 unfold hU
 rw [uX]
 by_cases h:i<0∨(l.length:Int)≤i
 ·rw [aE h]
  exact ⟨0,rfl,by omega,hn⟩
 ·rw [aQ h,cond_false,bu 0 (by omega) (by omega)]
  obtain ⟨r,h1,h2⟩:=dJ (hl (l.getD i.toNat 0) (fP 0 (by omega))) hn hn2
  simp only [Option.bind_some,h1]
  exact ⟨r,rfl,h2⟩
theorem Lv (l:List Int) (hl : ∀ x∈l,lw x) : ∃ p,iu l=some p∧(∀ d∈p,mq d)∧p.length≤24:=by
 unfold iu
 obtain ⟨a,ha,ha1,ha2⟩:=at_ok hl 0 (n:=3) (by omega) (by omega)
 obtain ⟨o,h1,h2,h3⟩:=fk (f:=ic l) (fun s=>4 - s.2.2.toNat) (fun s=>∃ i:Nat,s.2.2=(i:Int)∧(i:Int)≤a+1∧(∀ d∈s.1,mq d)∧s.1.length≤7 * i) (fun r=>(∀ d∈r,mq d)∧r.length≤24)
  (fun s hs=>by
   obtain ⟨o,b,s2⟩:=s
   obtain ⟨i,e1,hi,hg,hlen⟩:=hs
   dsimp only at e1 hg hlen
   subst e1
   unfold ic
   have ew:ad ((1:Int)+a)=a+1:=by rw [bi (by omega) (by omega)]; omega
   simp only [ha,Option.bind_some,ew]
   by_cases hlt:(i:Int)<a+1
   ·right
    obtain ⟨r,hr,hr1,hr2⟩:=at_ok hl (ad ((1:Int)+(i:Int))) (n:=4096) (by omega) (by omega)
    obtain ⟨rn,rfl⟩ : ∃ rn:Nat,r=(rn:Int):=⟨r.toNat,by omega⟩
    have et:Int.tmod (rn:Int) 14=((rn % 14:Nat):Int):=zq rn 14
    have ed:ad (Int.tdiv (rn:Int) 14)=((rn / 14:Nat):Int):=by
     rw [show Int.tdiv (rn:Int) 14=((rn / 14:Nat):Int) from KB rn 14]
     exact bi (by omega) (by omega)
    obtain ⟨p,hp,hp1,hp2⟩:=adl (k:=rn % 14) (i:=i) (v:=rn / 14) (by omega) (by omega) (by omega)
    have ew2:ad ((i:Int)+1)=((i+1:Nat):Int):=by rw [bi (by omega) (by omega)]; omega
    have a1 : ∀ m n:Nat,m+n≤100→aH m n 32=true:=fun m n h=>be (by omega) (by omega)
    simp only [aE hlt,cond_true,hr,Option.bind_some,et,ed,hp,ah,show (!((14:Int)==0))=true from rfl,a1 o.length p.length (by omega),a1 (o++p).length ([(mW,jp)]:List Df).length (by simp only [List.length_append,List.length_singleton]; omega),ew2]
    have hop : ∀ d∈o++p,mq d:=fun d hd=>(List.mem_append.1 hd).elim (hg d) (hp1 d)
    cases (bif ((rn % 14:Nat):Int)==(9:Int) then !b else false)
    ·exact ⟨_,rfl,⟨i+1,rfl,by omega,hop,by simp only [List.length_append]; omega⟩,by dsimp only; omega⟩
    ·refine ⟨_,rfl,⟨i+1,rfl,by omega,fun d hd=>?_,by simp only [List.length_append,List.length_singleton]; omega⟩,by dsimp only; omega⟩
     rcases List.mem_append.1 hd with hd | hd
     ·exact hop d hd
     ·rw [List.mem_singleton.1 hd]
      exact IW Ix
   ·left
    rw [aQ hlt]
    exact ⟨_,rfl,hg,by omega⟩) (s:=([],false,0)) ⟨0,rfl,by omega,fun d hd=>(by cases hd),by simp⟩ (by dsimp only; omega)
 rw [h1]
 obtain ⟨by_,hb,hb1,hb2⟩:=at_ok hl 4 (n:=64) (by omega) (by omega)
 simp only [Option.bind_some,hb]
 unfold ly
 obtain ⟨r,g1,g2,g3⟩:=fk (f:=iE o by_) (fun s=>o.length - s.2.toNat) (fun s=>∃ i:Nat,s.2=(i:Int)∧i≤o.length∧s.1.length=i∧∀ d∈s.1,d∈o) (fun r=>(∀ d∈r,d∈o)∧r.length≤o.length)
  (fun s hs=>by
   obtain ⟨q,s2⟩:=s
   obtain ⟨i,e1,hi,hlen,hin⟩:=hs
   dsimp only at e1 hlen hin
   subst e1
   unfold iE
   rcases Nat.lt_or_ge i o.length with hlt | hge
   ·right
    obtain ⟨c,hc,hc1,hc2⟩:=dJ (x:=by_) (n:=(o.length:Int)) ⟨by omega,by omega⟩ (by omega) (by omega)
    have ew:ad ((i:Int)+c)=(i:Int)+c:=bi (by omega) (by omega)
    have em:Int.tmod ((i:Int)+c) (o.length:Int)=((i:Int)+c) % (o.length:Int):=Int.tmod_eq_emod_of_nonneg (by omega)
    have m0:=Int.emod_nonneg ((i:Int)+c) (show (o.length:Int)≠0 by omega)
    have m1:=Int.emod_lt_of_pos ((i:Int)+c) (show (0:Int)<(o.length:Int) by omega)
    generalize ((i:Int)+c) % (o.length:Int)=md at em m0 m1
    have ew2:ad ((o.length:Int) - 1)=(o.length:Int) - 1:=bi (by omega) (by omega)
    have ew3:ad ((o.length:Int) - 1 - md)=(o.length:Int) - 1 - md:=bi (by omega) (by omega)
    simp only [aE (show (i:Int)<(o.length:Int) by omega),cond_true,hc,Option.bind_some,ah,show (!((o.length:Int)==0))=true by rw [show ((o.length:Int)==0)=false by simp only [beq_eq_false_iff_ne]; omega]; rfl,show (!((2:Int)==0))=true from rfl,ew,em,ew2,ew3,aS (n:=o.length) (by omega) hlt]
    have fin : ∀ k:Int,0≤k→k<o.length→∃ s',((some k:Option Int).bind fun s5=>(ac o s5).bind fun _=>(ac o s5).bind fun v7=>bif aH q.length ([v7]:List Df).length 32 then some (q++([v7]:List Df)) else none).bind (fun s3=>(some (Sum.inl (s3,(i:Int)+1)):Option (I7⊕List Df)))=some (Sum.inl s')∧(∃ i:Nat,s'.2=(i:Int)∧i≤o.length∧s'.1.length=i∧∀ d∈s'.1,d∈o)∧o.length - s'.2.toNat<o.length - i:=by
     intro k k0 k1
     simp only [Option.bind_some,bu ([],[]) k0 k1]
     rw [show aH q.length ([o.getD k.toNat ([],[])]:List Df).length 32=true from be (by simp only [List.length_singleton]; omega) (by omega)]
     refine ⟨_,rfl,⟨i+1,rfl,by omega,by simp [hlen],fun d hd=>?_⟩,by dsimp only; omega⟩
     rcases List.mem_append.1 hd with hd | hd
     ·exact hin d hd
     ·rw [List.mem_singleton.1 hd]
      exact fP _ (by omega)
    cases (Int.tmod by_ 2 != 0)
    ·exact fin md m0 m1
    ·exact fin ((o.length:Int) - 1 - md) (by omega) (by omega)
   ·left
    simp only [aQ (show ¬ (i:Int)<(o.length:Int) by omega),cond_false]
    exact ⟨_,rfl,hin,by omega⟩) (s:=([],0)) ⟨0,rfl,by omega,rfl,fun d hd=>(by cases hd)⟩ (by dsimp only; omega)
 rw [g1]
 exact ⟨r,rfl,fun d hd=>h2 d (g2 d hd),by omega⟩
theorem IC (l:List Int) (hl : ∀ x∈l,lw x) : ∃ c,gW l=some c∧xd c∧c.1.length≤512:=by
 unfold gW
 obtain ⟨p,hp,hp1,hp2⟩:=Lv l hl
 rw [hp]
 simp only [Option.bind_some]
 obtain ⟨c,e,hc,hc1,hc2⟩:=Lp p hp2 hp1 BR
 rw [hc]
 exact ⟨c,rfl,hc1,hc2⟩
open Go.Sm
set_option linter.unusedSimpArgs false
set_option linter.unusedVariables false
set_option maxRecDepth 4000
theorem tI (x:Int):lw (ad x):=Qb x
theorem uk {m n:Nat} (h:m+n≤2097152):aH m n 24=true:=be (by omega) (by omega)
theorem AG {m n:Nat} (h:m+n≤2097152):aH m n 16=true:=be (by omega) (by omega)
theorem ap8 {m n:Nat} (h:m+n≤2097152):aH m n 8=true:=be (by omega) (by omega)
theorem aaM {c:ao} (ht:xd c) (h512:c.1.length≤512) {x1 x2 r2 r3:Int} (h1:lw x1) (h2:lw x2) (hr2:0≤r2∧r2<c.1.length) (hr3:0≤r3∧r3<c.2.1.length) (hl:0<c.2.2.1.length) : ∃ b,kL x1 x2 c r2 r3=some b∧dD b:=by
 obtain ⟨t1,t2,t3,t4,t5,t6,t7⟩:=ht
 obtain ⟨r5,e5,g5,k5⟩:=dJ h1 (n:=12) (by omega) (by omega)
 obtain ⟨r31,e31,g31,k31⟩:=dJ (tI (Int.tdiv x2 7)) (n:=31) (by omega) (by omega)
 obtain ⟨r8,e8,g8,k8⟩:=dJ (tI (Int.tdiv x2 7)) (n:=8) (by omega) (by omega)
 obtain ⟨r4,e4,g4,k4⟩:=dJ (tI (Int.tdiv x2 7)) (n:=4) (by omega) (by omega)
 have ewl:ad ((c.1.length:Int)+2)=(c.1.length:Int)+2:=bi (by omega) (by omega)
 obtain ⟨rl,el,gl,kl⟩:=dJ (tI (Int.tdiv x2 7)) (n:=(c.1.length:Int)+2) (by omega) (by omega)
 obtain ⟨q3,f3,m3,n3⟩:=dJ h2 (n:=3) (by omega) (by omega)
 obtain ⟨q6,f6,m6,n6⟩:=dJ h2 (n:=6) (by omega) (by omega)
 obtain ⟨q2,f2,m2,n2⟩:=dJ h2 (n:=2) (by omega) (by omega)
 obtain ⟨p2,d2,u2,v2⟩:=dJ (tI (Int.tdiv x2 2)) (n:=2) (by omega) (by omega)
 have i1:=bu ((0,0,0):Int×Int×Int) hr2.1 hr2.2
 have i2:=bu (0:Int) hr3.1 hr3.2
 unfold kL
 dsimp only
 simp only [List.nil_append,e5,Option.bind_some,ah,show (!((7:Int)==0))=true from rfl,show (!((2:Int)==0))=true from rfl,cond_true]
 by_cases c0:r5=0
 ·rw [bt c0]
  simp only [cond_true,e31,Option.bind_some,i1]
  exact ⟨_,rfl,by dsimp only; omega,by dsimp only; omega,by dsimp only; omega,by dsimp only; omega,by dsimp only; omega,by dsimp only; omega,by dsimp only; omega⟩
 rw [bf c0,cond_false]
 by_cases c1:r5=1
 ·rw [bt c1]
  have i8:=bu (xs:=([-1,0,1,2,7,100,ad ((c.1.length:Int) - (1:Int)),(c.1.length:Int)]:List Int)) 0 g8 k8
  simp only [cond_true,e8,Option.bind_some,i1,i8]
  exact ⟨_,rfl,by dsimp only; omega,by dsimp only; omega,by dsimp only; omega,by dsimp only; omega,by dsimp only; omega,by dsimp only; omega,by dsimp only; omega⟩
 rw [bf c1,cond_false]
 by_cases c2:r5=2
 ·rw [bt c2]
  simp only [cond_true,e4,Option.bind_some,i1]
  exact ⟨_,rfl,by dsimp only; omega,by dsimp only; omega,by dsimp only; omega,by dsimp only; omega,by dsimp only; omega,by dsimp only; omega,by dsimp only; omega⟩
 rw [bf c2,cond_false]
 by_cases c3:r5=3
 ·rw [bt c3]
  have ew:ad (r2+1)=r2+1:=bi (by omega) (by omega)
  simp only [cond_true,ew,aE (show 0≤r2∧r2≤(c.1.length:Int) by omega),aE (show 0≤r2+1∧r2+1≤(c.1.length:Int)∧(c.1.length:Int)≤(c.1.length:Int) by omega)]
  rw [uk (by simp only [List.length_take,List.length_drop]; omega)]
  exact ⟨_,rfl,by dsimp only; omega,by dsimp only; omega,by dsimp only; omega,by dsimp only; omega,by dsimp only; omega,by dsimp only; omega,by dsimp only; omega⟩
 rw [bf c3,cond_false]
 by_cases c4:r5=4
 ·rw [bt c4]
  simp only [cond_true,i1,Option.bind_some]
  rw [uk (by simp only [List.length_singleton]; omega)]
  exact ⟨_,rfl,by dsimp only; omega,by dsimp only; omega,by dsimp only; omega,by dsimp only; omega,by dsimp only; omega,by dsimp only; omega,by dsimp only; omega⟩
 rw [bf c4,cond_false]
 by_cases c5:r5=5
 ·rw [bt c5]
  simp only [cond_true,ewl,el,i2,Option.bind_some]
  exact ⟨_,rfl,by simp only [List.length_set]; omega,by dsimp only; omega,by dsimp only; omega,by dsimp only; omega,by dsimp only; omega,by dsimp only; omega,by dsimp only; omega⟩
 rw [bf c5,cond_false]
 by_cases c6:r5=6
 ·rw [bt c6]
  have em:Int.tmod r3 (c.2.2.1.length:Int)=r3 % (c.2.2.1.length:Int):=Int.tmod_eq_emod_of_nonneg hr3.1
  have m0:=Int.emod_nonneg r3 (show (c.2.2.1.length:Int)≠0 by omega)
  have m1:=Int.emod_lt_of_pos r3 (show (0:Int)<(c.2.2.1.length:Int) by omega)
  have i4:=bu (xs:=([-1,0,512,513]:List Int)) 0 g4 k4
  simp only [cond_true,show (!((c.2.2.1.length:Int)==0))=true by rw [show ((c.2.2.1.length:Int)==0)=false by simp only [beq_eq_false_iff_ne]; omega]; rfl,e4,i4,em,bu (0:Int) m0 m1,Option.bind_some]
  exact ⟨_,rfl,by dsimp only; omega,by simp only [List.length_set]; omega,by dsimp only; omega,by dsimp only; omega,by dsimp only; omega,by dsimp only; omega,by dsimp only; omega⟩
 rw [bf c6,cond_false]
 by_cases c7:r5=7
 ·rw [bt c7]
  have i4:=bu (xs:=([([]:List UInt8),fu,lP]:List (List UInt8))) [] m3 n3
  simp only [cond_true,f3,i4,Option.bind_some]
  rw [uk (by simp only [List.length_singleton]; omega)]
  exact ⟨_,rfl,by dsimp only; omega,by dsimp only; omega,by simp only [List.length_append,List.length_singleton]; omega,by dsimp only; omega,by dsimp only; omega,by dsimp only; omega,by dsimp only; omega⟩
 rw [bf c7,cond_false]
 by_cases c8:r5=8
 ·rw [bt c8]
  simp only [cond_true,f6,Option.bind_some]
  rw [uk (by simp only [List.length_singleton]; omega)]
  exact ⟨_,rfl,by dsimp only; omega,by dsimp only; omega,by dsimp only; omega,by simp only [List.length_append,List.length_singleton]; omega,by dsimp only; omega,by dsimp only; omega,by dsimp only; omega⟩
 rw [bf c8,cond_false]
 by_cases c9:r5=9
 ·rw [bt c9]
  have i4:=bu (xs:=([([]:List UInt8),fu]:List (List UInt8))) [] m2 n2
  have i5:=bu (xs:=([([]:List UInt8),fu]:List (List UInt8))) [] u2 v2
  simp only [cond_true,f2,i4,d2,i5,Option.bind_some]
  rw [AG (by simp only [List.length_singleton]; omega),AG (by simp only [List.length_singleton]; omega)]
  exact ⟨_,rfl,by dsimp only; omega,by dsimp only; omega,by dsimp only; omega,by dsimp only; omega,by simp only [List.length_append,List.length_singleton]; omega,by simp only [List.length_append,List.length_singleton]; omega,by dsimp only; omega⟩
 rw [bf c9,cond_false]
 by_cases c10:r5=10
 ·rw [bt c10]
  simp only [cond_true]
  rw [AG (by simp only [List.length_singleton]; omega)]
  exact ⟨_,rfl,by dsimp only; omega,by dsimp only; omega,by dsimp only; omega,by dsimp only; omega,by dsimp only; omega,by dsimp only; omega,by simp only [List.length_append,List.length_singleton]; omega⟩
 rw [bf c10,cond_false]
 obtain ⟨z,z1,z2⟩:=fk (f:=ju) (fun y=>510 - y.1.toNat) (fun y=>∃ i:Nat,y.1=(i:Int)∧i≤509∧y.2.1.length≤512+i∧y.2.2=c.2) (fun r=>r.2=c.2)
  (fun y hy=>by
   obtain ⟨y1,y2,y3⟩:=y
   obtain ⟨i,e1,hi,hlen,hc⟩:=hy
   dsimp only at e1 hlen hc
   subst e1
   unfold ju
   by_cases hlt:i<509
   ·right
    simp only [aE (show (i:Int)<509 by omega),cond_true]
    rw [d8 (uk (by simp only [List.length_singleton]; omega)),aS (n:=509) (by omega) hlt]
    exact ⟨_,rfl,⟨i+1,rfl,by omega,by simp only [List.length_append,List.length_singleton]; omega,hc⟩,by dsimp only; omega⟩
   ·left
    simp only [aQ (show ¬ (i:Int)<509 by omega),cond_false]
    exact ⟨_,rfl,hc⟩) (s:=(0,c.1,c.2)) ⟨0,rfl,by omega,by dsimp only; omega,rfl⟩ (by dsimp only; omega)
 refine ⟨(z.1,[0],[9],z.2.2.2.1,z.2.2.2.2.1,z.2.2.2.2.2.1,z.2.2.2.2.2.2.1,[dG]),(congrArg (fun o:Option ao=>o.bind _) z1).trans rfl,by simp,by simp,?_,?_,?_,?_,by simp⟩ <;> rw [z2] <;> dsimp only <;> omega
theorem Zs {c:ao} (ht:xd c) (h512:c.1.length≤512) {x1 x2:Int} (h1:lw x1) (h2:lw x2) : ∃ b,j5 c x1 x2=some b∧dD b:=by
 have ht0:=ht
 obtain ⟨t1,t2,t3,t4,t5,t6,t7⟩:=ht0
 unfold j5
 rw [d8 (uk (by simp only [List.length_nil]; omega)),d8 (ap8 (by simp only [List.length_nil]; omega)),d8 (ap8 (by simp only [List.length_nil]; omega)),d8 (uk (by simp only [List.length_nil]; omega)),d8 (uk (by simp only [List.length_nil]; omega)),d8 (AG (by simp only [List.length_nil]; omega)),d8 (AG (by simp only [List.length_nil]; omega)),d8 (AG (by simp only [List.length_nil]; omega))]
 simp only [List.nil_append]
 cases hz:(bif bif bif (c.1.length:Int)==(0:Int) then true else (c.2.1.length:Int)==(0:Int) then true else (c.2.2.1.length:Int)==(0:Int) then true else (c.2.2.2.2.2.2.2.length:Int)==(0:Int))
 ·simp only [sn,uX,decide_eq_false_iff_not] at hz
  obtain ⟨r2,e2,g2,k2⟩:=dJ h2 (n:=(c.1.length:Int)) (by omega) (by omega)
  obtain ⟨r3,e3,g3,k3⟩:=dJ (tI (Int.tdiv x2 3)) (n:=(c.2.1.length:Int)) (by omega) (by omega)
  simp only [cond_false,e2,Option.bind_some,ah,show (!((3:Int)==0))=true from rfl,cond_true,e3]
  obtain ⟨b,hb,hb2⟩:=aaM ht h512 h1 h2 ⟨g2,k2⟩ ⟨g3,k3⟩ (by omega)
  rw [hb]
  exact ⟨b,rfl,hb2⟩
 ·obtain ⟨r,e1,_⟩:=dJ h2 (n:=31) (by omega) (by omega)
  simp only [cond_true,e1,Option.bind_some,ah,show (!((2:Int)==0))=true from rfl]
  exact ⟨_,rfl,by simp,by simp,by simp,by simp,by simp,by simp,by simp⟩
theorem PH {x:Int} (h:lw x) : ∃ e,iZ x=some e:=by
 unfold iZ
 obtain ⟨r,e1,g,k⟩:=dJ h (n:=4096) (by omega) (by omega)
 obtain ⟨n,rfl⟩ : ∃ n:Nat,r=(n:Int):=⟨r.toNat,by omega⟩
 have q1:ad (Int.tdiv (n:Int) 4)=((n / 4:Nat):Int):=by rw [show Int.tdiv (n:Int) 4=((n / 4:Nat):Int) from KB n 4]; exact bi (by omega) (by omega)
 have q2:ad (Int.tdiv (n:Int) 20)=((n / 20:Nat):Int):=by rw [show Int.tdiv (n:Int) 20=((n / 20:Nat):Int) from KB n 20]; exact bi (by omega) (by omega)
 have q3:Int.tmod ((n / 4:Nat):Int) 5=((n / 4 % 5:Nat):Int):=zq (n / 4) 5
 have q4:Int.tmod ((n / 20:Nat):Int) 4=((n / 20 % 4:Nat):Int):=zq (n / 20) 4
 rw [e1]
 simp only [Option.bind_some,ah,show (!((4:Int)==0))=true from rfl,show (!((5:Int)==0))=true from rfl,show (!((20:Int)==0))=true from rfl,cond_true,q1,q2,q3,q4]
 rw [aD (xs:=([0,0,1,8,4]:List Int)) 0 (show n / 4 % 5<5 by omega),aD (xs:=([0,0,2,8]:List Int)) 0 (show n / 20 % 4<4 by omega)]
 exact ⟨_,rfl⟩
theorem Rm {c:ao} (ht:dD c) {l:List Int} (hl : ∀ x∈l,lw x) : ∃ r,jK c l=some r∧r.length≤6:=by
 unfold jK
 obtain ⟨r,h1,h2⟩:=fk (f:=iR c l) (fun s=>7 - s.2.toNat) (fun s=>∃ i:Nat,s.2=(i:Int)∧i≤6∧s.1.length≤i) (fun r=>r.length≤6)
  (fun s hs=>by
   obtain ⟨o,s2⟩:=s
   obtain ⟨i,e1,hi,hlen⟩:=hs
   dsimp only at e1 hlen
   subst e1
   unfold iR
   simp only [lE]
   by_cases hlt:(i:Int)<l.length∧(i:Int)<6
   ·right
    have hp : ∃ r,kv l (o,(i:Int)) c=some r∧r.length=o.length+1:=by
     unfold kv
     dsimp only
     obtain ⟨q,eq,g,k⟩:=dJ (hl (l.getD i 0) (fP 0 (by omega))) (n:=4096) (by omega) (by omega)
     obtain ⟨n,rfl⟩ : ∃ n:Nat,q=(n:Int):=⟨q.toNat,by omega⟩
     have q1:ad (Int.tdiv (n:Int) 21)=((n / 21:Nat):Int):=by rw [show Int.tdiv (n:Int) 21=((n / 21:Nat):Int) from KB n 21]; exact bi (by omega) (by omega)
     simp only [aD (0:Int) (show i<l.length by omega),Option.bind_some,eq,ah,show (!((7:Int)==0))=true from rfl,show (!((3:Int)==0))=true from rfl,show (!((21:Int)==0))=true from rfl,cond_true,Bool.or_true,q1]
     have h7 : ∃ x,(bif (bif decide ((0:Int)<(c.2.2.2.1.length:Int)) then decide ((0:Int)<Int.tmod (n:Int) 3) else false) then bif (!((c.2.2.2.1.length:Int)==0)) then (ac c.2.2.2.1 (Int.tmod ((n / 21:Nat):Int) (c.2.2.2.1.length:Int))).bind fun _=>(ac c.2.2.2.1 (Int.tmod ((n / 21:Nat):Int) (c.2.2.2.1.length:Int))).bind fun v9=>some (v9.1,ad (Int.tmod (n:Int) 7 - 3)) else none else some (vq,ad (Int.tmod (n:Int) 7 - 3)))=some x:=by
      simp only [lE]
      by_cases hz:(0:Int)<(c.2.2.2.1.length:Int)∧(0:Int)<Int.tmod (n:Int) 3
      ·rw [aE hz,show (!((c.2.2.2.1.length:Int)==0))=true by rw [show ((c.2.2.2.1.length:Int)==0)=false by simp only [beq_eq_false_iff_ne]; omega]; rfl,zq]
       simp only [cond_true]
       rw [aD (([],0):List UInt8×Int) (Nat.mod_lt _ (by omega))]
       exact ⟨_,rfl⟩
      ·rw [aQ hz]
       exact ⟨_,rfl⟩
     obtain ⟨x7,hx7⟩:=h7
     have h10 : ∃ x,(bif (bif decide ((0:Int)<(c.2.2.2.2.2.2.1.length:Int)) then Int.tmod (n:Int) 3==2 else false) then bif (!((c.2.2.2.2.2.2.1.length:Int)==0)) then (ac c.2.2.2.2.2.2.1 (Int.tmod ((n / 21:Nat):Int) (c.2.2.2.2.2.2.1.length:Int))).bind fun _=>(ac c.2.2.2.2.2.2.1 (Int.tmod ((n / 21:Nat):Int) (c.2.2.2.2.2.2.1.length:Int))).bind fun v12=>some (v12,x7.2) else none else some x7)=some x:=by
      simp only [sn,lE]
      by_cases hz:(0:Int)<(c.2.2.2.2.2.2.1.length:Int)∧Int.tmod (n:Int) 3=2
      ·rw [aE hz,aQ (show ¬ (c.2.2.2.2.2.2.1.length:Int)=0 by omega),zq]
       simp only [cond_true,Bool.not_false]
       rw [aD ([]:List UInt8) (Nat.mod_lt _ (by omega))]
       exact ⟨_,rfl⟩
      ·rw [aQ hz]
       exact ⟨_,rfl⟩
     obtain ⟨x10,hx10⟩:=h10
     refine ⟨o++[x10],?_,by simp⟩
     refine (congrArg (fun z:Option (List UInt8×Int)=>z.bind _) hx7).trans ?_
     simp only [Option.bind_some]
     refine (congrArg (fun z:Option (List UInt8×Int)=>z.bind _) hx10).trans ?_
     simp only [Option.bind_some]
     rw [show aH o.length ([x10]:List (List UInt8×Int)).length 24=true from uk (by simp only [List.length_singleton]; omega)]
     rfl
    obtain ⟨r,hp1,hp2⟩:=hp
    simp only [aE hlt,cond_true,hp1,Option.bind_some,aS (n:=6) (by omega) (show i<6 by omega)]
    exact ⟨_,rfl,⟨i+1,rfl,by omega,by dsimp only; omega⟩,by dsimp only; omega⟩
   ·left
    simp only [aQ hlt,cond_false]
    exact ⟨_,rfl,by omega⟩) (s:=([],0)) ⟨0,rfl,by omega,by simp⟩ (by dsimp only; omega)
 rw [h1]
 exact ⟨r,rfl,h2⟩
open Go.Sm
set_option maxRecDepth 100000
theorem KR:mb=some true:=by kernel_rfl
open Go.Sm
set_option linter.unusedSimpArgs false
set_option linter.unusedVariables false
set_option maxRecDepth 4000
theorem nJ (l:List Int) (h:l.length≤1048576):cB l l=some true:=by
 unfold cB
 rw [show ((l.length:Int) != (l.length:Int))=false by simp,cond_false]
 rcases dH (f:=eS l l) l.length (by omega) (fun _=>True) (fun _=>false)
  (fun i hi _=>by
   left
   refine ⟨trivial,?_⟩
   unfold eS
   simp only [aE (show (i:Int)<(l.length:Int) by omega),cond_true,aD 0 hi,Option.bind_some,bne_self_eq_false,cond_false,aS (n:=l.length) (by omega) hi])
  (fun _=>by unfold eS; rw [aQ (by omega)]; rfl) with ⟨_,he⟩ | ⟨i,_,_,hP,_⟩
 ·rw [he]; rfl
 ·exact absurd trivial hP
theorem MJ (t:Th) (h:zs t):Itr.it (eK t t) 0=some (.inl ()):=by
 obtain ⟨h1,h2,h3⟩:=h
 rcases dH (f:=eK t t) t.1.length (by omega) (fun _=>True) (fun _=>.inr (.inr false))
  (fun i hi _=>by
   left
   refine ⟨trivial,?_⟩
   unfold eK
   have hf:=h3 _ (fP (0,[]) hi)
   simp only [aE (show (i:Int)<(t.1.length:Int) by omega),cond_true,aD (0,[]) hi,Option.bind_some,bne_self_eq_false,cond_false,Bool.not_false,nJ _ hf,Bool.not_true,aS (n:=t.1.length) (by omega) hi])
  (fun _=>by unfold eK; rw [aQ (by omega)]; rfl) with ⟨_,he⟩ | ⟨i,_,_,hP,_⟩
 ·exact he
 ·exact absurd trivial hP
theorem OS (s:bw) (hs:d9 s):j9 s s=some true:=by
 obtain ⟨h1,h2,h3,h4,h5,h6,h7⟩:=hs
 unfold j9
 simp only [bne_self_eq_false,beq_self_eq_true,Bool.and_self,Bool.not_true,cond_false]
 have e1:Itr.it (eM s s) 0=some (.inl ()):=by
  rcases dH (f:=eM s s) s.1.length (by omega) (fun _=>True) (fun _=>false)
   (fun i hi _=>by
    left
    refine ⟨trivial,?_⟩
    unfold eM
    have ht:=h2 _ (fP ([],[],0,false) hi)
    simp only [aE (show (i:Int)<(s.1.length:Int) by omega),cond_true,aD ([],[],0,false) hi,Option.bind_some,bne_self_eq_false,cond_false,Bool.not_false,nJ _ ht.2.1,Bool.not_true,MJ _ ht,aS (n:=s.1.length) (by omega) hi])
   (fun _=>by unfold eM; rw [aQ (by omega)]; rfl) with ⟨_,he⟩ | ⟨i,_,_,hP,_⟩
  ·exact he
  ·exact absurd trivial hP
 have e3:Itr.it (eJ s s) 0=some (.inl ()):=by
  rcases dH (f:=eJ s s) s.2.2.1.length (by omega) (fun _=>True) (fun _=>false)
   (fun i hi _=>by
    left
    refine ⟨trivial,?_⟩
    unfold eJ
    have ht:=h5 _ (fP [] hi)
    simp only [aE (show (i:Int)<(s.2.2.1.length:Int) by omega),cond_true,aD [] hi,Option.bind_some,nJ _ ht,Bool.not_true,cond_false,aS (n:=s.2.2.1.length) (by omega) hi])
   (fun _=>by unfold eJ; rw [aQ (by omega)]; rfl) with ⟨_,he⟩ | ⟨i,_,_,hP,_⟩
  ·exact he
  ·exact absurd trivial hP
 rw [e1]
 simp only [Option.bind_some,e3,nJ _ h3,nJ _ h6,nJ _ h7,cond_true]
theorem acP (s:bw) (hs:d9 s) {i:Nat} (hi:i<s.1.length) (z:qY):Itr.it (fV s ((i:Int),z)) (0,([]:List Fr),(s.1.getD i ([],[],0,false)).2)=some (s.1.getD i ([],[],0,false)):=by
 obtain ⟨h1,h2,h3⟩:=hs.2.1 _ (fP ([],[],0,false) hi)
 have et:=aD (([],[],0,false):Th) hi
 generalize s.1.getD i ([],[],0,false)=t at *
 exact dW (f:=fV s ((i:Int),z)) (fun y=>t.1.length - y.1.toNat) (fun _=>t) (fun y=>∃ k:Nat,y=((k:Int),t.1.take k,t.2)∧k≤t.1.length)
  (fun y hy=>by
   obtain ⟨k,rfl,hk⟩:=hy
   unfold fV
   rcases Nat.lt_or_ge k t.1.length with hlt | hge
   ·right
    refine ⟨(((k+1:Nat):Int),t.1.take (k+1),t.2),?_,⟨k+1,rfl,by omega⟩,by dsimp only; omega,rfl⟩
    simp only [et,Option.bind_some,aE (show (k:Int)<(t.1.length:Int) by omega),cond_true,aD (0,[]) hlt,aS (n:=t.1.length) (by omega) hlt,iL (0,[]) hlt]
    rw [d8 (be (by simp only [List.length_take,List.length_singleton]; omega) (by omega))]
    rfl
   ·left
    have:k=t.1.length:=by omega
    subst this
    simp [et]) (s:=(0,[],t.2)) ⟨0,rfl,by omega⟩ (by show t.1.length - (0:Int).toNat<_; omega)
theorem acw (s:bw) (hs:d9 s) (z:qY) (hz:z.1=[]):Itr.it (fJ s) (0,z)=some (s.1,z.2):=by
 have h1:=hs.1
 refine dW (f:=fJ s) (fun y=>s.1.length - y.1.toNat) (fun _=>(s.1,z.2)) (fun y=>∃ i:Nat,y=((i:Int),s.1.take i,z.2)∧i≤s.1.length)
  (fun y hy=>by
   obtain ⟨i,rfl,hi⟩:=hy
   unfold fJ
   rcases Nat.lt_or_ge i s.1.length with hlt | hge
   ·right
    refine ⟨(((i+1:Nat):Int),s.1.take (i+1),z.2),?_,⟨i+1,rfl,by omega⟩,by dsimp only; omega,rfl⟩
    have e2:aH (s.1.take i).length ([s.1.getD i ([],[],0,false)]:List Th).length 64=true:=be (by simp only [List.length_take,List.length_singleton]; omega) (by omega)
    have e3:=acP s hs hlt (s.1.take i,z.2)
    simp only [aE (show (i:Int)<(s.1.length:Int) by omega),cond_true,aD ([],[],0,false) hlt,Option.bind_some]
    refine (congrArg (fun o:Option Th=>(o.bind fun s10=>ah (aH (s.1.take i).length ([s10]:List Th).length 64) (some (s.1.take i++([s10]:List Th),z.2))).bind fun s3=>(some (Sum.inl (ad ((i:Int)+1),s3)):Option (xL⊕qY))) e3).trans ?_
    simp only [Option.bind_some,ah,e2,cond_true,aS (n:=s.1.length) (by omega) hlt,iL ([],[],0,false) hlt]
    rfl
   ·left
    have:i=s.1.length:=by omega
    subst this
    simp) ⟨0,?_,by omega⟩ (by show s.1.length - (0:Int).toNat<_; omega)
 obtain ⟨z1,z2⟩:=z
 dsimp only at hz
 subst hz
 rfl
theorem SM (s:bw) (hs:d9 s):jH s=some s:=by
 unfold jH
 dsimp only
 rw [acw s hs _ rfl]
 rfl
theorem Iq (x0 x1:List Int) (x2 x3 x4:Int) (x5:dy) (h0 : ∀ x∈x0,lw x) (h1 : ∀ x∈x1,lw x) (h2:lw x2) (h3:lw x3) (h4:lw x4):ib x0 x1 x2 x3 x4 x5=some true:=by
 unfold ib
 obtain ⟨a,ha,ha1,ha2⟩:=IC x0 h0
 obtain ⟨b,hb,hb1⟩:=Zs ha1 ha2 h3 h4
 obtain ⟨e,he⟩:=PH h2
 obtain ⟨e',he'⟩:=PH h4
 have hsa:=zT ha1
 simp only [ha,hb,he,he',Option.bind_some]
 have hcode : ∀ i:Nat,i<4→∃ c,ac ([a,a,b,(([]:List (Int×Int×Int)),([]:List Int),([]:List Int),([]:List ((List UInt8)×Int)),([]:List ((List UInt8)×Int)),([]:List (List UInt8)),([]:List (List UInt8)),([]:List (List UInt8)))]:List ao) (i:Int)=some c∧dD c:=by
  intro i hi
  rcases i with _ | _ | _ | _ | i
  ·exact ⟨a,rfl,hsa⟩
  ·exact ⟨a,rfl,hsa⟩
  ·exact ⟨b,rfl,hb1⟩
  ·exact ⟨_,rfl,zT sv⟩
  ·omega
 have henv : ∀ i:Nat,i<4→∃ c,ac ([e,x5,e',x5]:List dy) (i:Int)=some c:=fun i hi=>⟨_,aD e hi⟩
 obtain ⟨cl,hcl,hcl2⟩:=Rm hsa h1
 have inner : ∀ i:Nat,i<4→∀ k:Nat,k<2→gj a x1 (k:Int) x4 b (i:Int) e x5 e' = some (.inl ()):=by
  intro i hi k hk
  unfold gj
  rw [hcl]
  simp only [Option.bind_some]
  have hleft : ∃ left:List jW,(bif ((k:Int)==(1:Int)) then (aZ x4 7).bind fun r12=>ah (decide (0≤(ad ((64:Int) - r12))∧(cl.length+(ad ((64:Int) - r12)).toNat) * 24≤140737488355328∧cl.length+(ad ((64:Int) - r12)).toNat≤maxLen)) (some (cl++List.replicate (ad ((64:Int) - r12)).toNat ((([]:List UInt8),0):((List UInt8)×Int)))) else some cl)=some left∧left.length≤1048576:=by
   cases (k:Int)==(1:Int)
   ·exact ⟨cl,rfl,by omega⟩
   ·obtain ⟨r,hr,g1,g2⟩:=dJ h4 (n:=7) (by omega) (by omega)
    have ew:ad (64 - r)=64 - r:=bi (by omega) (by omega)
    simp only [cond_true,hr,Option.bind_some,ew]
    rw [d8 (aE ⟨by omega,by omega,by simp only [maxLen]; omega⟩)]
    exact ⟨_,rfl,by simp only [List.length_append,List.length_replicate]; omega⟩
  obtain ⟨left,hl1,hl2⟩:=hleft
  obtain ⟨c,hc,hcs⟩:=hcode i hi
  obtain ⟨en,hen⟩:=henv i hi
  obtain ⟨s,f,w1,w2,w3,_⟩:=On c hcs en left hl2
  refine (congrArg (fun o:Option (List jW)=>o.bind _) hl1).trans ?_
  simp only [Option.bind_some,hc,iI,hen,w1,w2,bne_self_eq_false,Bool.not_false,cond_true,SM s w3,OS s w3,Bool.not_true,cond_false]
 rcases dH (f:=dN x1 x4 x5 a b e e') 4 (by omega) (fun _=>True) (fun _=>false)
  (fun i hi _=>by
   left
   refine ⟨trivial,?_⟩
   unfold dN
   have hin:Itr.it (cQ x1 x4 x5 a b e e' (i:Int)) 0=some (.inl ()):=by
    rcases dH (f:=cQ x1 x4 x5 a b e e' (i:Int)) 2 (by omega) (fun _=>True) (fun _=>.inr (.inr false))
     (fun k hk _=>by
      left
      refine ⟨trivial,?_⟩
      unfold cQ
      rw [aE (show (k:Int)<2 by omega),cond_true,inner i hi k hk]
      simp only [Option.bind_some]
      rw [aS (n:=2) (by omega) hk])
     (fun _=>by unfold cQ; rfl) with ⟨_,he⟩ | ⟨i,_,_,hP,_⟩
    ·exact he
    ·exact absurd trivial hP
   rw [aE (show (i:Int)<((([a,a,b,(([]:List (Int×Int×Int)),([]:List Int),([]:List Int),([]:List ((List UInt8)×Int)),([]:List ((List UInt8)×Int)),([]:List (List UInt8)),([]:List (List UInt8)),([]:List (List UInt8)))]:List ao).length:Nat):Int) by show (i:Int)<((4:Nat):Int); omega),cond_true,hin]
   simp only [Option.bind_some]
   rw [aS (n:=4) (by omega) hi])
  (fun _=>by unfold dN; rfl) with ⟨_,he⟩ | ⟨i,_,_,hP,_⟩
 ·rw [he]
  simp only [Option.bind_some,KR]
 ·exact absurd trivial hP
end Go.Proofs.YtfhhiajfciblbaaGreatDoor
