/- Laws for the row. No condition. -/
import Derived.Test.YtfhhiajfciblbaaGreatDoorLawG3
import Derived.Test.YtfhhiajfciblbaaGreatDoorLawM7
import Derived.KernelRfl
namespace Go.Proofs.YtfhhiajfciblbaaGreatDoor
open Go.Sm
set_option linter.unusedSimpArgs false
set_option linter.unusedVariables false
set_option linter.unusedSectionVars false
set_option maxRecDepth 4000
variable {c:CC} {s:aO} {k i pc:Nat} {e x:bI} {fs:List Fr} {f:Fr} {st:List Int} {w:Int} {acc:List ((Int×Int×Bool)×Bool)} {sd:List bR}
def E2 (l:List Df):Prop:=∀ i j,i<l.length→j<i→(l.getD j ([],[])).1≠(l.getD i ([],[])).1
section
variable (l:List Df) (hl:l.length≤24) (hg : ∀ d∈l,oI d)
include hl hg
theorem WI : ∃ k e,lv l=some (k,e)∧(e=0→E2 l):=by
 unfold lv
 rw [aG (by omega),no]
 rcases cE (f:=ib l) l.length (by omega) (fun i=>gx l (i:Int)=some 0) (fun i=>((i:Int),(gx l (i:Int)).getD 1))
  (fun i hi _=>by
   unfold ib
   obtain ⟨e,he,_⟩:=AB l hl hg hi
   simp only [aw (show (i:Int)<(l.length:Int) by omega),f9,he,f7,ZJ,aW (n:=l.length) (by omega) hi,Va,adN]
   by_cases hz:e=0
   ·left
    rw [hz]
    exact ⟨rfl,rfl⟩
   ·right
    rw [nt hz]
    exact ⟨hz,rfl⟩)
  (fun _=>by unfold ib; rw [aG (by omega)]; rfl) with ⟨hP,he⟩ | ⟨i,hi,_,hP,he⟩
 rotate_left
 ·rw [he]
  obtain ⟨e,he,_⟩:=AB l hl hg hi
  rw [he] at hP
  simp only [f7,ZJ,he,adN]
  exact ⟨_,_,rfl,fun h=>absurd (by rw [h]) hP⟩
 rw [he]
 have huniq:E2 l:=by
  intro i j hi hj
  obtain ⟨e,he,h⟩:=AB l hl hg hi
  rw [hP i hi] at he
  cases he
  exact h rfl j hj
 simp only [f7,ZJ]
 obtain ⟨z2,hz2⟩:=vT (f:=hY l) l.length (by omega)
  (fun i hi=>by
   unfold hY
   obtain ⟨e,he⟩:=Uj l hl hg hi
   simp only [aw (show (i:Int)<(l.length:Int) by omega),f9,he,f7,ZJ,aW (n:=l.length) (by omega) hi]
   cases e != 0
   ·exact .inr rfl
   ·exact .inl ⟨_,rfl⟩)
  ⟨_,by unfold hY; rw [aG (by omega)]; rfl⟩
 obtain ⟨z3,hz3⟩:=vT (f:=g9 l) l.length (by omega)
  (fun i hi=>by
   unfold g9
   obtain ⟨r,hr,hr2⟩:=B7 l hl hg (l.getD i ([],[])).1 true
   obtain ⟨b,hb,_⟩:=BS r (by omega) (l.getD i ([],[])).1
   simp only [aw (show (i:Int)<(l.length:Int) by omega),f9,aB ([],[]) hi,hr,hb,f7,aW (n:=l.length) (by omega) hi]
   cases b
   ·exact .inr rfl
   ·exact .inl ⟨_,rfl⟩)
  ⟨_,by unfold g9; rw [aG (by omega)]; rfl⟩
 rw [hz2]
 rcases z2 with z2 | z2
 ·simp only [f7,ZJ,hz3]
  rcases z3 with z3 | z3
  ·exact ⟨_,_,rfl,fun _=>huniq⟩
  ·exact ⟨z3.1,z3.2,rfl,fun _=>huniq⟩
 ·exact ⟨z2.1,z2.2,rfl,fun _=>huniq⟩
theorem Wh (nm:iT) : ∃ s e,lx l nm=some (s,e)∧(e=0→E2 l∧(∀ d∈s,d∈l)∧s.length≤1537∧∃ d∈s,d.1=nm):=by
 unfold lx
 obtain ⟨k,e,hc,hc2⟩:=WI l hl hg
 rw [hc]
 simp only [f7,ZJ]
 by_cases he:e=0
 rotate_left
 ·rw [nt he]
  exact ⟨[],e,rfl,fun h=>absurd h he⟩
 rw [nf he,no]
 rcases tF l (by omega) nm with ⟨q1,_⟩ | ⟨j,q1,q2,q3,_⟩
 ·rw [q1]
  exact ⟨[],6,rfl,fun h=>(by cases h)⟩
 rw [q1]
 simp only [f7,ZJ,aG (show ¬ (j:Int)<0 by omega),no]
 obtain ⟨r,hr,hr2⟩:=B7 l hl hg nm false
 obtain ⟨r4,p1,p2,p3⟩:=UF r (by omega) nm
 rw [hr]
 simp only [f7,ZJ,p1]
 have h0:0<l.length:=by omega
 obtain ⟨z,hz1,hz2⟩:=fw (f:=kv l r4) (fun s=>r4.length - s.2.toNat) (fun s=>∃ i:Nat,s.2=(i:Int)∧i≤r4.length∧s.1.length=i∧(∀ d∈s.1,d∈l)∧∀ k,k<i→r4.getD k []=nm→l.getD j ([],[])∈s.1) (fun s=>(∀ d∈s,d∈l)∧s.length≤r4.length∧l.getD j ([],[])∈s)
  (fun s hs=>by
   obtain ⟨o,s2⟩:=s
   obtain ⟨i,h1,hi,ho,hin,hk⟩:=hs
   dsimp only at h1 ho hin hk
   subst h1
   unfold kv
   rcases WG i r4.length with hlt | hge
   ·right
    obtain ⟨ri,d,a1,a2,a3⟩:=wV l hl hg h0 (r4.getD i [])
    simp only [aw (show (i:Int)<(r4.length:Int) by omega),f9,aB [] hlt,f7,a1,a3,aW (n:=r4.length) (by omega) hlt]
    rw [jv (aY (by simp only [Vp]; omega) (by omega))]
    refine ⟨_,rfl,⟨i+1,rfl,by omega,by simp [ho],fun d' hd' => ?_,fun k hk' hnm=>?_⟩,by dsimp only; omega⟩
    ·rcases Wc.1 hd' with hd' | hd'
     ·exact hin d' hd'
     ·rw [Vt.1 hd']; exact a2
    ·rcases WG k i with hlt2 | hge2
     ·exact Wc.2 (.inl (hk k hlt2 hnm))
     ·have:k=i:=by omega
      subst this
      rw [hnm,q1] at a1
      cases a1
      rw [if_neg (by omega),aB ([],[]) q2] at a3
      cases a3
      exact Wc.2 (.inr (by simp))
   ·left
    have:i=r4.length:=by omega
    subst this
    simp only [aG (show ¬ (r4.length:Int)<(r4.length:Int) by omega),no]
    obtain ⟨k,hk1,hk2⟩:=ZG.1 ((p2 nm).2 (.inr rfl))
    exact ⟨_,rfl,hin,by omega,hk k hk1 (by simp [hk1,hk2])⟩) (s:=([],0)) ⟨0,rfl,by omega,rfl,fun d hd=>(by cases hd),fun k hk=>absurd hk (by omega)⟩ (by show r4.length - (0:Int).toNat<_; omega)
 rw [hz1]
 exact ⟨z,0,rfl,fun _=>⟨hc2 he,hz2.1,by have:=hz2.2.1; omega,_,hz2.2.2,q3⟩⟩
theorem ac8 (hu:E2 l) {d d' : Df} (h:d∈l) (h' : d' ∈ l) (hn:d.1=d'.1):d=d' := by
 obtain ⟨i,hi,rfl⟩:=ZG.1 h
 obtain ⟨j,hj,rfl⟩:=ZG.1 h'
 rcases ahm i j with hl | hl | hl
 ·have:=hu j i hj hl
  simp [hi,hj] at this
  exact absurd hn this
 ·subst hl; rfl
 ·have:=hu i j hi hl
  simp [hi,hj] at this
  exact absurd hn.symm this
end
section
variable (s:List Df) (hl:s.length≤1537) (hg : ∀ d∈s,oI d)
include hl hg
theorem Te (nm:iT) : ∃ c,kU s nm=some c∧c.1=[]∧c.2.1=[]∧c.2.2.1=[]∧c.2.2.2.1.length≤98368∧c.2.2.2.2.1.length≤1537∧c.2.2.2.2.2.1.length≤1537∧c.2.2.2.2.2.2.1.length≤1537∧c.2.2.2.2.2.2.2.length≤1538 ∧
  ∀ x∈c.2.2.2.2.2.2.2,x=nm∨∃ d∈s,d.1=x∧∃ n u,GoodN d n u∧n.1=5:=by
 unfold kU
 obtain ⟨c,h1,h2⟩:=fw (f:=jS s) (fun y=>s.length - y.1.toNat)
  (fun y=>∃ i:Nat,y.1=(i:Int)∧i≤s.length∧y.2.1=[]∧y.2.2.1=[]∧y.2.2.2.1=[]∧y.2.2.2.2.1.length≤64 * i∧y.2.2.2.2.2.1.length≤i∧y.2.2.2.2.2.2.1.length≤i∧y.2.2.2.2.2.2.2.1.length≤i∧y.2.2.2.2.2.2.2.2.length≤i∧∀ x∈y.2.2.2.2.2.2.2.2,∃ d∈s,d.1=x∧∃ n u,GoodN d n u∧n.1=5)
  (fun c=>c.1=[]∧c.2.1=[]∧c.2.2.1=[]∧c.2.2.2.1.length≤64 * s.length∧c.2.2.2.2.1.length≤s.length∧c.2.2.2.2.2.1.length≤s.length∧c.2.2.2.2.2.2.1.length≤s.length∧c.2.2.2.2.2.2.2.length≤s.length∧∀ x∈c.2.2.2.2.2.2.2,∃ d∈s,d.1=x∧∃ n u,GoodN d n u∧n.1=5)
  (fun y hy=>by
   obtain ⟨y0,c1,c2,c3,c4,c5,c6,c7,c8⟩:=y
   obtain ⟨i,h1,hi,e1,e2,e3,b4,b5,b6,b7,b8,hx⟩:=hy
   dsimp only at h1 e1 e2 e3 b4 b5 b6 b7 b8 hx
   subst h1 e1 e2 e3
   unfold jS
   rcases WG i s.length with hlt | hge
   ·right
    have hmem:s.getD i ([],[])∈s:=by simp [hlt]
    obtain ⟨n,u,g⟩:=hg _ hmem
    have hk:=g.kids
    have hp : ∃ c:ax,lL s ((i:Int),[],[],[],c4,c5,c6,c7,c8)=some c∧c.1=[]∧c.2.1=[]∧c.2.2.1=[]∧c.2.2.2.1.length≤64 * (i+1)∧c.2.2.2.2.1.length≤i+1∧c.2.2.2.2.2.1.length≤i+1∧c.2.2.2.2.2.2.1.length≤i+1∧c.2.2.2.2.2.2.2.length≤i+1∧∀ x∈c.2.2.2.2.2.2.2,∃ d∈s,d.1=x∧∃ n u,GoodN d n u∧n.1=5:=by
     unfold lL
     simp only [aB ([],[]) hlt,f7,g.parse]
     by_cases h0:n.1=0
     ·obtain ⟨r,q1,q2⟩:=N9 c4 (by omega) (n.2.1,n.2.2.1)
      rw [bt h0,f9,q1]
      exact ⟨_,rfl,rfl,rfl,rfl,by dsimp only; omega,by dsimp only; omega,by dsimp only; omega,by dsimp only; omega,by dsimp only; omega,hx⟩
     rw [bf h0,no]
     by_cases h1:n.1=1
     ·rw [bt h1,f9]
      obtain ⟨c,w1,w2⟩:=fw (f:=jQ (n,0,0)) (fun y=>n.2.2.2.length - y.1.toNat)
       (fun y=>∃ (k:Nat) (v:List (iT×Int)),y=((k:Int),[],[],[],v,c5,c6,c7,c8)∧k≤n.2.2.2.length∧v.length=c4.length+k)
       (fun c=>∃ v:List (iT×Int),c=([],[],[],v,c5,c6,c7,c8)∧v.length=c4.length+n.2.2.2.length)
       (fun y hy=>by
        obtain ⟨k,v,rfl,hk1,hv⟩:=hy
        unfold jQ
        rcases WG k n.2.2.2.length with hlt2 | hge2
        ·right
         have hkl:=g.lens _ (show n.2.2.2.getD k (Nd.mk 0 [] 0 [])∈n.2.2.2 by simp [hlt2])
         have hnl:=g.len
         obtain ⟨r,q1,q2⟩:=N9 v (by omega) ((n.2.1++mw)++(n.2.2.2.getD k (Nd.mk 0 [] 0 [])).tup.2.1,(n.2.2.2.getD k (Nd.mk 0 [] 0 [])).tup.2.2.1)
         have hS:mw.length=1:=rfl
         simp only [aw (show (k:Int)<(n.2.2.2.length:Int) by omega),f9,aB (Nd.mk 0 [] 0 []) hlt2,f7,af,aw (show n.2.1.length+mw.length≤9223372036854775807 by omega),aw (show (n.2.1++mw).length+(n.2.2.2.getD k (Nd.mk 0 [] 0 [])).tup.2.1.length≤9223372036854775807 by simp only [Vs]; omega),q1,aW (n:=n.2.2.2.length) (by omega) hlt2]
         exact ⟨_,rfl,⟨k+1,r,rfl,by omega,by omega⟩,by dsimp only; omega⟩
        ·left
         simp only [aG (show ¬ (k:Int)<(n.2.2.2.length:Int) by omega),no]
         exact ⟨_,rfl,v,rfl,by omega⟩) (s:=(0,[],[],[],c4,c5,c6,c7,c8)) ⟨0,c4,rfl,by omega,by omega⟩ (by show n.2.2.2.length - (0:Int).toNat<_; omega)
      obtain ⟨v,rfl,hv⟩:=w2
      exact ⟨_,w1,rfl,rfl,rfl,by dsimp only; omega,by dsimp only; omega,by dsimp only; omega,by dsimp only; omega,by dsimp only; omega,hx⟩
     rw [bf h1,no]
     by_cases h2:n.1=2
     ·rw [bt h2,f9,jv (aY (by simp only [Vp]; omega) (by omega))]
      exact ⟨_,rfl,rfl,rfl,rfl,by dsimp only; omega,by simp only [Vs,Vp]; omega,by dsimp only; omega,by dsimp only; omega,by dsimp only; omega,hx⟩
     rw [bf h2,no]
     by_cases h3:n.1=3
     ·rw [bt h3,f9,jv (aY (by simp only [Vp]; omega) (by omega))]
      exact ⟨_,rfl,rfl,rfl,rfl,by dsimp only; omega,by dsimp only; omega,by simp only [Vs,Vp]; omega,by dsimp only; omega,by dsimp only; omega,hx⟩
     rw [bf h3,no]
     by_cases h4:n.1=4
     ·rw [bt h4,f9,jv (aY (by simp only [Vp]; omega) (by omega))]
      exact ⟨_,rfl,rfl,rfl,rfl,by dsimp only; omega,by dsimp only; omega,by dsimp only; omega,by simp only [Vs,Vp]; omega,by dsimp only; omega,hx⟩
     rw [bf h4,no]
     by_cases h5:n.1=5
     ·rw [bt h5,f9,jv (aY (by simp only [Vp]; omega) (by omega))]
      refine ⟨_,rfl,rfl,rfl,rfl,by dsimp only; omega,by dsimp only; omega,by dsimp only; omega,by dsimp only; omega,by simp only [Vs,Vp]; omega,fun x hxm=>?_⟩
      rcases Wc.1 hxm with hxm | hxm
      ·exact hx x hxm
      ·rw [Vt.1 hxm]
       exact ⟨_,hmem,g.name.symm,n,u,g,h5⟩
     rw [bf h5,no]
     exact ⟨_,rfl,rfl,rfl,rfl,by dsimp only; omega,by dsimp only; omega,by dsimp only; omega,by dsimp only; omega,by dsimp only; omega,hx⟩
    obtain ⟨c,hp1,hp2,hp3,hp4,hp5,hp6,hp7,hp8,hp9,hp10⟩:=hp
    simp only [aw (show (i:Int)<(s.length:Int) by omega),f9,hp1,f7,ZJ,aW (n:=s.length) (by omega) hlt]
    exact ⟨_,rfl,⟨i+1,rfl,by omega,hp2,hp3,hp4,hp5,hp6,hp7,hp8,hp9,hp10⟩,by dsimp only; omega⟩
   ·left
    simp only [aG (show ¬ (i:Int)<(s.length:Int) by omega),no]
    exact ⟨_,rfl,rfl,rfl,rfl,by dsimp only; omega,by dsimp only; omega,by dsimp only; omega,by dsimp only; omega,by dsimp only; omega,hx⟩)
  (s:=(0,[],[],[],[],[],[],[],[])) ⟨0,rfl,by omega,rfl,rfl,rfl,by simp,by simp,by simp,by simp,by simp,fun x hx=>(by cases hx)⟩ (by show s.length - (0:Int).toNat<_; omega)
 obtain ⟨p1,p2,p3,p4,p5,p6,p7,p8,p9⟩:=h2
 rw [h1]
 simp only [f7,ZJ]
 rw [jv (aY (by simp only [Vp]; omega) (by omega))]
 refine ⟨_,rfl,p1,p2,p3,by dsimp only; omega,by dsimp only; omega,by dsimp only; omega,by dsimp only; omega,by simp only [Vs,Vp]; omega,fun x hx=>?_⟩
 rcases Wc.1 hx with hx | hx
 ·exact .inr (p9 x hx)
 ·exact .inl (Vt.1 hx)
end
def G3 (c:ax):Prop:=c.2.1.length≤100000∧c.2.2.1.length≤100000∧c.2.2.2.1.length≤100000∧c.2.2.2.2.1.length≤100000∧c.2.2.2.2.2.1.length≤100000∧c.2.2.2.2.2.2.1.length≤100000∧c.2.2.2.2.2.2.2.length≤100000
theorem Rx {c:ax} (h:G3 c):eV c:=by
 obtain ⟨h1,h2,h3,h4,h5,h6,h7⟩:=h
 exact ⟨by omega,by omega,by omega,by omega,by omega,by omega,by omega⟩
theorem yd:G3 ([],[],[],[],[],[],[],[]):=⟨by simp,by simp,by simp,by simp,by simp,by simp,by simp⟩
theorem ac5 {s:List Df} {d:Df} {n:Tn} {u:List bg} (hs:s.length≤1537) (g:GoodN d n u) (hk:n.1=5∨n.1=6) {m:Mk} {j:Nat} (hi:i<m.1.2.2.2.2.2.2.2.length) (hj:bK s (m.1.2.2.2.2.2.2.2.getD i [])=some (j:Int)) (hjl:j<s.length) (hd:s.getD j ([],[])=d)
  (h1:m.1.1.length≤401 * i) (h2:m.1.2.1.length≤i) (h3:m.1.2.2.1.length≤i) (h4:m.1.2.2.2.1.length≤98368) (h5:m.1.2.2.2.2.1.length≤1537) (h6:m.1.2.2.2.2.2.1.length≤1537) (h7:m.1.2.2.2.2.2.2.1.length≤1537) (h8:m.1.2.2.2.2.2.2.2.length≤1538) :
  ∃ m' : Mk,lm (me (i:Int) m) (s,0)=some (me 0 m').2∧m'.1.1.length≤401 * (i+1)∧m'.1.2.1.length≤i+1∧m'.1.2.2.1.length≤i+1∧m'.1.2.2.2=m.1.2.2.2:=by
 obtain ⟨k,r,bm,bb,e1,e2,e3,e4,e5⟩:=g.proc hk
 unfold lm
 simp only [me,aB [] hi,f7,hj,aB ([],[]) hjl,hd,g.parse]
 rw [jv (aY (by simp only [Vp]; omega) (by omega))]
 obtain ⟨m1,a1,a2⟩:=tk 64 ((m.1.1,m.1.2.1++([(m.1.1.length:Int)]:List Int),m.1.2.2.1,m.1.2.2.2.1,m.1.2.2.2.2.1,m.1.2.2.2.2.2.1,m.1.2.2.2.2.2.2.1,m.1.2.2.2.2.2.2.2),([]:List iT),0) n bm e2
  ⟨by dsimp only; omega,by dsimp only [List.length_nil]; omega,by dsimp only; omega,by dsimp only; omega,by dsimp only; omega,by dsimp only; omega,by dsimp only; omega⟩
 rw [show lh _ _=some m1 from a1]
 obtain ⟨c1,c2,c3,c4⟩:=a2
 dsimp only [List.length_nil] at c1 c2 c3 c4
 obtain ⟨m2,d1,d2⟩:=XN 64 m1 k.tup bb e3 ⟨by omega,by omega,by rw [c1]; dsimp only; omega,by rw [c1]; dsimp only; omega,by rw [c1]; dsimp only; omega,by rw [c1]; dsimp only; omega,by rw [c1]; dsimp only; omega⟩
 simp only [f7,ZJ,e1,vG]
 rw [show kC m1 (k.tup.1,k.tup.2.1,k.tup.2.2.1,k.tup.2.2.2)=some m2 from d1]
 simp only [f7,ZJ]
 obtain ⟨f1,f2,f3,f4⟩:=d2
 have g2:m2.1.2=(m.1.2.1++([(m.1.1.length:Int)]:List Int),m.1.2.2):=f1.trans c1
 have he : ∃ m3:Mk,(bif decide ((ad ((i:Int)+(1:Int)))<(m2.1.2.2.2.2.2.2.2.length:Int)) then (aD m2 13 0 0).bind fun r21=>some (me 0 r21).2 else (aD m2 28 0 0).bind fun r22=>some (me 0 r22).2)=some (me 0 m3).2∧Gw 1 m2 m3:=by
  have room:oU m2 1:=⟨by omega,by omega,by rw [g2]; dsimp only; omega,by rw [g2]; dsimp only; omega,by rw [g2]; dsimp only; omega,by rw [g2]; dsimp only; omega,by rw [g2]; dsimp only; omega⟩
  cases decide ((ad ((i:Int)+(1:Int)))<(m2.1.2.2.2.2.2.2.2.length:Int))
  ·obtain ⟨m3,q1,q2,_⟩:=mo room 28 0 0
   exact ⟨m3,by rw [q1]; rfl,q2⟩
  ·obtain ⟨m3,q1,q2,_⟩:=mo room 13 0 0
   exact ⟨m3,by rw [q1]; rfl,q2⟩
 obtain ⟨m3,q1,q2⟩:=he
 obtain ⟨p1,p2,p3,p4⟩:=q2
 have g3:=p1.trans g2
 have l2:m3.1.2.1.length=m.1.2.1.length+1:=by rw [g3]; simp
 have l3:m3.1.2.2.1=m.1.2.2.1:=by rw [g3]
 have l4:m3.1.2.2.2=m.1.2.2.2:=by rw [g3]
 refine ⟨((m3.1.1,m3.1.2.1,m3.1.2.2.1++([(m3.2.1.length:Int)]:List Int),m3.1.2.2.2),m3.2),?_,by dsimp only; omega,by dsimp only; omega,by dsimp only; rw [l3]; simp only [Vs,Vp]; omega,l4⟩
 refine (Xw (fun z:Option yO=>z.bind _) q1).trans ?_
 simp only [f7,ZJ,me]
 rw [jv (aY (by rw [l3]; simp only [Vp]; omega) (by omega))]
theorem Ot (l:List Df) (hl:l.length≤24) (hg : ∀ d∈l,oI d) (nm:iT) : ∃ c e,gP l nm=some (c,e)∧G3 c∧c.1.length≤512:=by
 unfold gP
 obtain ⟨s,e,hs,hs2⟩:=Wh l hl hg nm
 rw [hs]
 simp only [f7,ZJ]
 by_cases he:e=0
 rotate_left
 ·rw [nt he]
  exact ⟨_,_,rfl,yd,by simp⟩
 obtain ⟨hu,hsl,hsn,d0,hd0,hd0n⟩:=hs2 he
 subst he
 simp only [Yy,no]
 have hgs : ∀ d∈s,oI d:=fun d hd=>hg d (hsl d hd)
 have bd : ∀ d∈s,∃ j:Nat,bK s d.1=some (j:Int)∧j<s.length∧s.getD j ([],[])=d:=by
  intro d hd
  rcases tF s (by omega) d.1 with ⟨q1,q2⟩ | ⟨j,q1,q2,q3,_⟩
  ·obtain ⟨k,hk,rfl⟩:=ZG.1 hd
   exact absurd (by simp [hk]) (q2 k hk)
  ·exact ⟨j,q1,q2,ac8 l hl hg hu (hsl _ (by simp [q2])) (hsl d hd) q3⟩
 obtain ⟨j0,i1,i2,i3⟩:=bd d0 hd0
 rw [hd0n] at i1
 obtain ⟨n0,u0,g0⟩:=hgs d0 hd0
 rw [i1]
 simp only [f7,ZJ,aB ([],[]) i2,i3,g0.parse]
 by_cases h6:n0.1=6
 rotate_left
 ·rw [nt h6]
  exact ⟨_,_,rfl,yd,by simp⟩
 rw [nf h6,no]
 obtain ⟨c,t1,t2,t3,t4,t5,t6,t7,t8,t9,t10⟩:=Te s hsn hgs nm
 rw [t1]
 simp only [f7,ZJ]
 obtain ⟨z,z1,z2⟩:=fw (f:=jD (s,0)) (fun y=>c.2.2.2.2.2.2.2.length - y.1.toNat)
  (fun y=>∃ (i:Nat) (m:Mk),y=me (i:Int) m∧i≤c.2.2.2.2.2.2.2.length∧m.1.1.length≤401 * i∧m.1.2.1.length≤i∧m.1.2.2.1.length≤i∧m.1.2.2.2=c.2.2.2)
  (fun r=>∃ m:Mk,r=(me 0 m).2∧m.1.2.1.length≤1538∧m.1.2.2.1.length≤1538∧m.1.2.2.2=c.2.2.2)
  (fun y hy=>by
   obtain ⟨i,m,rfl,hi,b1,b2,b3,b4⟩:=hy
   have bn:m.1.2.2.2.2.2.2.2=c.2.2.2.2.2.2.2:=by rw [b4]
   unfold jD
   rcases WG i c.2.2.2.2.2.2.2.length with hlt | hge
   ·right
    have hx:=t10 (c.2.2.2.2.2.2.2.getD i []) (by simp [hlt])
    have hfind : ∃ (d:Df) (n:Tn) (u:List bg) (j:Nat),GoodN d n u∧(n.1=5∨n.1=6)∧bK s (c.2.2.2.2.2.2.2.getD i [])=some (j:Int)∧j<s.length∧s.getD j ([],[])=d:=by
     rcases hx with hx | ⟨d,hd,hdn,n,u,g,h5⟩
     ·rw [hx]
      exact ⟨d0,n0,u0,j0,g0, .inr h6,i1,i2,i3⟩
     ·obtain ⟨j,q1,q2,q3⟩:=bd d hd
      rw [← hdn]
      exact ⟨d,n,u,j,g, .inl h5,q1,q2,q3⟩
    obtain ⟨d,n,u,j,g,hk,q1,q2,q3⟩:=hfind
    obtain ⟨m',v1,v2,v3,v4,v5⟩:=ac5 hsn g hk (i:=i) (m:=m) (by rw [bn]; exact hlt) (by rw [bn]; exact q1) q2 q3 b1 b2 b3 (by rw [b4]; exact t5) (by rw [b4]; exact t6) (by rw [b4]; exact t7) (by rw [b4]; exact t8) (by rw [b4]; exact t9)
    refine ⟨me ((i+1:Nat):Int) m',?_,⟨i+1,m',rfl,by omega,v2,v3,v4,v5.trans b4⟩,by show _ - ((i+1:Nat):Int).toNat<_ - (i:Int).toNat; omega⟩
    rw [v1]
    simp only [me,bn,show (i:Int)<(c.2.2.2.2.2.2.2.length:Int) by omega,YD,f9,f7,ZJ,aW (n:=c.2.2.2.2.2.2.2.length) (by omega) hlt]
    rfl
   ·left
    have:i=c.2.2.2.2.2.2.2.length:=by omega
    subst this
    refine ⟨(me 0 m).2,?_,m,rfl,by omega,by omega,b4⟩
    simp only [me,bn,adv,Yv,no]) (s:=me 0 (c,[],0)) ⟨0,(c,[],0),rfl,by omega,by rw [t2]; simp,by rw [t3]; simp,by rw [t4]; simp,rfl⟩ (by show c.2.2.2.2.2.2.2.length - (0:Int).toNat<_; omega)
 obtain ⟨m,rfl,b2,b3,b4⟩:=z2
 by_cases h512:(512:Int)<(m.1.1.length:Int)
 ·refine ⟨([],[],[],[],[],[],[],[]),4,(Xw (fun z:Option yO=>z.bind _) z1).trans ?_,yd,by simp⟩
  simp only [f7,ZJ,me,h512,YD,f9]
 ·refine ⟨m.1,0,(Xw (fun z:Option yO=>z.bind _) z1).trans ?_,⟨by omega,by omega,by rw [b4]; omega,by rw [b4]; omega,by rw [b4]; omega,by rw [b4]; omega,by rw [b4]; omega⟩,by omega⟩
  simp only [f7,ZJ,me,h512,Yv,no]
set_option maxRecDepth 100000
def ga (kind i v:Int):Bool:=match cu kind i v with
 | some p=>p.all G6&&Nat.ble p.length 6
 | none=>false
def jO (kind:Int) (n:Nat):Bool:=[0,1,2].all fun i=>(List.range n).all fun v=>ga kind i (v:Int)
theorem aiI:jO 0 8=true:=by kernel_rfl
theorem ai5:jO 1 8=true:=by kernel_rfl
theorem aiP:jO 2 8=true:=by kernel_rfl
theorem ai3:jO 3 8=true:=by kernel_rfl
theorem ai2:jO 4 8=true:=by kernel_rfl
theorem aiS:jO 5 8=true:=by kernel_rfl
theorem aiC:jO 6 3=true:=by kernel_rfl
theorem aiR:jO 7 3=true:=by kernel_rfl
theorem ajk:jO 8 2=true:=by kernel_rfl
theorem ajm:jO 9 2=true:=by kernel_rfl
theorem agY:jO 10 3=true:=by kernel_rfl
theorem aie:jO 11 3=true:=by kernel_rfl
theorem afC:jO 12 3=true:=by kernel_rfl
theorem ag0:jO 13 18=true:=by kernel_rfl
theorem LT:G6 (pp,kR)=true:=by kernel_rfl
set_option maxRecDepth 4000
theorem Cd (v n:Nat):Int.tmod (v:Int) (n:Int)=((v % n:Nat):Int):=by
 rw [ad8 (by omega)]
 rfl
theorem NF (v n:Nat):Int.tdiv (v:Int) (n:Int)=((v / n:Nat):Int):=by
 rw [Int.tdiv_eq_ediv_of_nonneg (by omega)]
 rfl
theorem BJ (v:Nat):Int.tmod (v:Int) 2=((v % 2:Nat):Int):=Cd v 2
theorem Hr (v:Nat):Int.tmod (v:Int) 3=((v % 3:Nat):Int):=Cd v 3
theorem tm4 (v:Nat):Int.tmod (v:Int) 4=((v % 4:Nat):Int):=Cd v 4
theorem tm9 (v:Nat):Int.tmod (v:Int) 9=((v % 9:Nat):Int):=Cd v 9
theorem td2 (v:Nat) (h:v<4096):ad (Int.tdiv (v:Int) 2)=((v / 2:Nat):Int):=by
 rw [show Int.tdiv (v:Int) 2=((v / 2:Nat):Int) from NF v 2]
 exact aZ (by omega) (by omega)
theorem td9 (v:Nat) (h:v<4096):ad (Int.tdiv (v:Int) 9)=((v / 9:Nat):Int):=by
 rw [show Int.tdiv (v:Int) 9=((v / 9:Nat):Int) from NF v 9]
 exact aZ (by omega) (by omega)
theorem oD (k i:Int) {v w:Nat} (hv:v<4096) (hw:w<4096) (h1:v % 2=w % 2) (h2:v / 2 % 4=w / 2 % 4):cq k i (v:Int)=cq k i (w:Int):=by
 have h3:v / 2 % 2=w / 2 % 2:=by omega
 unfold cq
 simp only [BJ,tm4,td2 v hv,td2 w hw,h1,h2,h3]
theorem jt {kind:Int} {n:Nat} (h:jO kind n=true) {r:Nat} (hi:i<3) (hr:r<n):ga kind (i:Int) (r:Int)=true:=by
 unfold jO at h
 have h1:=Vx.1 h (i:Int) (by
  have:i=0∨i=1∨i=2:=by omega
  rcases this with rfl | rfl | rfl <;> simp)
 exact Vx.1 h1 r (Y0.2 hr)
theorem lp (k i v:Int) (hk:k=0∨k=1∨k=2∨k=3∨k=4∨k=5):cu k i v=cq k i v:=by
 unfold cu bA
 rcases hk with rfl | rfl | rfl | rfl | rfl | rfl <;> simp only [Int.reduceBEq,f9,no,f7,ZJ]
 ·cases cq 0 i v <;> rfl
 ·cases cq 1 i v <;> rfl
 ·cases cq 2 i v <;> rfl
 ·cases cq 3 i v <;> rfl
 ·cases cq 4 i v <;> rfl
 ·cases cq 5 i v <;> rfl
theorem tX (k i v w:Int) (h:bA k i v=bA k i w) (hn:bA k i w≠some (.inl ())):cu k i v=cu k i w:=by
 unfold cu
 rw [h]
 cases hp:bA k i w with
 | none=>rfl
 | some z=>
  rcases z with z | z
  ·exact absurd hp hn
  ·rfl
theorem ul (k i w:Int) (hk:k=6∨k=7∨k=8∨k=9∨k=10∨k=11∨k=12):bA k i w≠some (.inl ()):=by
 intro hp
 unfold bA at hp
 rcases hk with rfl | rfl | rfl | rfl | rfl | rfl | rfl <;> simp [af,Bool.cond_eq_ite,Yg] at hp
section
variable {i v:Nat} (hi:i<3) (hv:v<4096)
include hi hv
theorem ajG:ga 0 (i:Int) (v:Int)=true:=by
 rw [← jt aiI hi (show v % 8<8 by omega)]
 unfold ga
 rw [lp _ _ _ (by omega),lp _ _ _ (by omega),oD 0 (i:Int) (w:=v % 8) hv (by omega) (by omega) (by omega)]
theorem ajS:ga 1 (i:Int) (v:Int)=true:=by
 rw [← jt ai5 hi (show v % 8<8 by omega)]
 unfold ga
 rw [lp _ _ _ (by omega),lp _ _ _ (by omega),oD 1 (i:Int) (w:=v % 8) hv (by omega) (by omega) (by omega)]
theorem ajL:ga 2 (i:Int) (v:Int)=true:=by
 rw [← jt aiP hi (show v % 8<8 by omega)]
 unfold ga
 rw [lp _ _ _ (by omega),lp _ _ _ (by omega),oD 2 (i:Int) (w:=v % 8) hv (by omega) (by omega) (by omega)]
theorem ajF:ga 3 (i:Int) (v:Int)=true:=by
 rw [← jt ai3 hi (show v % 8<8 by omega)]
 unfold ga
 rw [lp _ _ _ (by omega),lp _ _ _ (by omega),oD 3 (i:Int) (w:=v % 8) hv (by omega) (by omega) (by omega)]
theorem ajM:ga 4 (i:Int) (v:Int)=true:=by
 rw [← jt ai2 hi (show v % 8<8 by omega)]
 unfold ga
 rw [lp _ _ _ (by omega),lp _ _ _ (by omega),oD 4 (i:Int) (w:=v % 8) hv (by omega) (by omega) (by omega)]
theorem ajH:ga 5 (i:Int) (v:Int)=true:=by
 rw [← jt aiS hi (show v % 8<8 by omega)]
 unfold ga
 rw [lp _ _ _ (by omega),lp _ _ _ (by omega),oD 5 (i:Int) (w:=v % 8) hv (by omega) (by omega) (by omega)]
theorem ajY:ga 6 (i:Int) (v:Int)=true:=by
 rw [← jt aiC hi (show v % 3<3 by omega)]
 unfold ga
 have e1:v % 3 % 3=v % 3:=by omega
 rw [tX 6 (i:Int) (v:Int) ((v % 3:Nat):Int) (by unfold bA; simp only [Int.reduceBEq,f9,no,f7,ZJ,BJ,Hr,e1]) (ul _ _ _ (by omega))]
theorem ajI:ga 7 (i:Int) (v:Int)=true:=by
 rw [← jt aiR hi (show v % 3<3 by omega)]
 unfold ga
 have e1:v % 3 % 3=v % 3:=by omega
 rw [tX 7 (i:Int) (v:Int) ((v % 3:Nat):Int) (by unfold bA; simp only [Int.reduceBEq,f9,no,f7,ZJ,BJ,Hr,e1]) (ul _ _ _ (by omega))]
theorem ajQ:ga 8 (i:Int) (v:Int)=true:=by
 rw [← jt ajk hi (show v % 2<2 by omega)]
 unfold ga
 have e1:v % 2 % 2=v % 2:=by omega
 rw [tX 8 (i:Int) (v:Int) ((v % 2:Nat):Int) (by unfold bA; simp only [Int.reduceBEq,f9,no,f7,ZJ,BJ,Hr,e1]) (ul _ _ _ (by omega))]
theorem ajU:ga 9 (i:Int) (v:Int)=true:=by
 rw [← jt ajm hi (show v % 2<2 by omega)]
 unfold ga
 have e1:v % 2 % 2=v % 2:=by omega
 rw [tX 9 (i:Int) (v:Int) ((v % 2:Nat):Int) (by unfold bA; simp only [Int.reduceBEq,f9,no,f7,ZJ,BJ,Hr,e1]) (ul _ _ _ (by omega))]
theorem aiY:ga 10 (i:Int) (v:Int)=true:=by
 rw [← jt agY hi (show v % 3<3 by omega)]
 unfold ga
 have e1:v % 3 % 3=v % 3:=by omega
 rw [tX 10 (i:Int) (v:Int) ((v % 3:Nat):Int) (by unfold bA; simp only [Int.reduceBEq,f9,no,f7,ZJ,BJ,Hr,e1]) (ul _ _ _ (by omega))]
theorem aja:ga 11 (i:Int) (v:Int)=true:=by
 rw [← jt aie hi (show v % 3<3 by omega)]
 unfold ga
 have e1:v % 3 % 3=v % 3:=by omega
 rw [tX 11 (i:Int) (v:Int) ((v % 3:Nat):Int) (by unfold bA; simp only [Int.reduceBEq,f9,no,f7,ZJ,BJ,Hr,e1]) (ul _ _ _ (by omega))]
theorem aiX:ga 12 (i:Int) (v:Int)=true:=by
 rw [← jt afC hi (show v % 3<3 by omega)]
 unfold ga
 have e1:v % 3 % 3=v % 3:=by omega
 rw [tX 12 (i:Int) (v:Int) ((v % 3:Nat):Int) (by unfold bA; simp only [Int.reduceBEq,f9,no,f7,ZJ,BJ,Hr,e1]) (ul _ _ _ (by omega))]
theorem aiG:ga 13 (i:Int) (v:Int)=true:=by
 rw [← jt ag0 hi (show v % 18<18 by omega)]
 unfold ga
 have e1:v % 18 % 9=v % 9:=by omega
 have e2:v % 18 / 9 % 2=v / 9 % 2:=by omega
 have e3:cu 13 (i:Int) (v:Int)=cu 13 (i:Int) ((v % 18:Nat):Int):=by
  unfold cu bA
  simp only [Int.reduceBEq,f9,no,f7,ZJ,BJ,tm9,td9 v hv,td9 (v % 18) (by omega),e1,e2]
 rw [e3]
end
theorem agf {v:Nat} (hk:k<14) (hi:i<3) (hv:v<4096) : ∃ p,cu (k:Int) (i:Int) (v:Int)=some p∧(∀ d∈p,oI d)∧p.length≤6:=by
 have h:ga (k:Int) (i:Int) (v:Int)=true:=by
  have:k=0∨k=1∨k=2∨k=3∨k=4∨k=5∨k=6∨k=7∨k=8∨k=9∨k=10∨k=11∨k=12∨k=13:=by omega
  rcases this with rfl | rfl | rfl | rfl | rfl | rfl | rfl | rfl | rfl | rfl | rfl | rfl | rfl | rfl
  ·exact ajG hi hv
  ·exact ajS hi hv
  ·exact ajL hi hv
  ·exact ajF hi hv
  ·exact ajM hi hv
  ·exact ajH hi hv
  ·exact ajY hi hv
  ·exact ajI hi hv
  ·exact ajQ hi hv
  ·exact ajU hi hv
  ·exact aiY hi hv
  ·exact aja hi hv
  ·exact aiX hi hv
  ·exact aiG hi hv
 unfold ga at h
 split at h
 ·rename_i p hp
  simp only [Vf] at h
  exact ⟨p,hp,fun d hd=>Md (Vx.1 h.1 d hd),Vg h.2⟩
 ·cases h
def rk (x:Int):Prop:=-9223372036854775808≤x∧x≤9223372036854775807
theorem uB {x n:Int} (hx:rk x) (hn:0<n) (hn2:n≤9223372036854775807) : ∃ r,eO x n=some r∧0≤r∧r<n:=by
 unfold eO
 obtain ⟨h1,h2⟩:=hx
 have fin : ∀ y:Int,0≤y→∃ r,(some y:Option Int).bind (fun s1=>af (!(n==0)) (some (Int.tmod s1 n)))=some r∧0≤r∧r<n:=by
  intro y hy
  refine ⟨Int.tmod y n,?_,?_,?_⟩
  ·simp only [f7,ZJ]
   rw [jv (by rw [show (n==0)=false by simp only [WW]; omega]; rfl)]
  ·rw [ad8 hy]; exact Int.emod_nonneg _ (by omega)
  ·rw [ad8 hy]; exact Int.emod_lt_of_pos _ hn
 by_cases hz:x<0
 ·rw [aw hz,f9]
  refine fin _ ?_
  rw [aZ (x:=x+1) (by omega) (by omega),aZ (by omega) (by omega)]
  omega
 ·rw [aG hz,no]
  exact fin _ (by omega)
theorem at_ok {l:List Int} (hl : ∀ x∈l,rk x) (i:Int) {n:Int} (hn:0<n) (hn2:n≤9223372036854775807) : ∃ r,ig l i n=some r∧0≤r∧r<n:=by
 unfold ig
 rw [mU]
 by_cases h:i<0∨(l.length:Int)≤i
 ·rw [aw h]
  exact ⟨0,rfl,by omega,hn⟩
 ·rw [aG h,no,aT 0 (by omega) (by omega)]
  obtain ⟨r,h1,h2⟩:=uB (hl (l.getD i.toNat 0) (de 0 (by omega))) hn hn2
  simp only [f7,ZJ,h1]
  exact ⟨r,rfl,h2⟩
theorem Q6 (l:List Int) (hl : ∀ x∈l,rk x) : ∃ p,j8 l=some p∧(∀ d∈p,oI d)∧p.length≤24:=by
 unfold j8
 obtain ⟨a,ha,ha1,ha2⟩:=at_ok hl 0 (n:=3) (by omega) (by omega)
 obtain ⟨o,h1,h2,h3⟩:=fw (f:=jL l) (fun s=>4 - s.2.2.toNat) (fun s=>∃ i:Nat,s.2.2=(i:Int)∧(i:Int)≤a+1∧(∀ d∈s.1,oI d)∧s.1.length≤7 * i) (fun r=>(∀ d∈r,oI d)∧r.length≤24)
  (fun s hs=>by
   obtain ⟨o,b,s2⟩:=s
   obtain ⟨i,e1,hi,hg,hlen⟩:=hs
   dsimp only at e1 hg hlen
   subst e1
   unfold jL
   have ew:ad ((1:Int)+a)=a+1:=by rw [aZ (by omega) (by omega)]; omega
   simp only [ha,f7,ZJ,ew]
   by_cases hlt:(i:Int)<a+1
   ·right
    obtain ⟨r,hr,hr1,hr2⟩:=at_ok hl (ad ((1:Int)+(i:Int))) (n:=4096) (by omega) (by omega)
    obtain ⟨rn,rfl⟩ : ∃ rn:Nat,r=(rn:Int):=⟨r.toNat,by omega⟩
    have et:Int.tmod (rn:Int) 14=((rn % 14:Nat):Int):=Cd rn 14
    have ed:ad (Int.tdiv (rn:Int) 14)=((rn / 14:Nat):Int):=by
     rw [show Int.tdiv (rn:Int) 14=((rn / 14:Nat):Int) from NF rn 14]
     exact aZ (by omega) (by omega)
    obtain ⟨p,hp,hp1,hp2⟩:=agf (k:=rn % 14) (i:=i) (v:=rn / 14) (by omega) (by omega) (by omega)
    have ew2:ad ((i:Int)+1)=((i+1:Nat):Int):=by rw [aZ (by omega) (by omega)]; omega
    have a1 : ∀ m n:Nat,m+n≤100→aJ m n 32=true:=fun m n h=>aY (by omega) (by omega)
    simp only [aw hlt,f9,hr,f7,ZJ,et,ed,hp,af,show (!((14:Int)==0))=true from rfl,a1 o.length p.length (by omega),a1 (o++p).length ([(pp,kR)]:List Df).length (by simp only [Vs,Vp]; omega),ew2]
    have hop : ∀ d∈o++p,oI d:=fun d hd=>(Wc.1 hd).elim (hg d) (hp1 d)
    cases (bif ((rn % 14:Nat):Int)==(9:Int) then !b else false)
    ·exact ⟨_,rfl,⟨i+1,rfl,by omega,hop,by simp only [Vs]; omega⟩,by dsimp only; omega⟩
    ·refine ⟨_,rfl,⟨i+1,rfl,by omega,fun d hd=>?_,by simp only [Vs,Vp]; omega⟩,by dsimp only; omega⟩
     rcases Wc.1 hd with hd | hd
     ·exact hop d hd
     ·rw [Vt.1 hd]
      exact Md LT
   ·left
    rw [aG hlt]
    exact ⟨_,rfl,hg,by omega⟩) (s:=([],false,0)) ⟨0,rfl,by omega,fun d hd=>(by cases hd),by simp⟩ (by dsimp only; omega)
 rw [h1]
 obtain ⟨by_,hb,hb1,hb2⟩:=at_ok hl 4 (n:=64) (by omega) (by omega)
 simp only [f7,ZJ,hb]
 unfold nK
 obtain ⟨r,g1,g2,g3⟩:=fw (f:=j7 o by_) (fun s=>o.length - s.2.toNat) (fun s=>∃ i:Nat,s.2=(i:Int)∧i≤o.length∧s.1.length=i∧∀ d∈s.1,d∈o) (fun r=>(∀ d∈r,d∈o)∧r.length≤o.length)
  (fun s hs=>by
   obtain ⟨q,s2⟩:=s
   obtain ⟨i,e1,hi,hlen,hin⟩:=hs
   dsimp only at e1 hlen hin
   subst e1
   unfold j7
   rcases WG i o.length with hlt | hge
   ·right
    obtain ⟨c,hc,hc1,hc2⟩:=uB (x:=by_) (n:=(o.length:Int)) ⟨by omega,by omega⟩ (by omega) (by omega)
    have ew:ad ((i:Int)+c)=(i:Int)+c:=aZ (by omega) (by omega)
    have em:Int.tmod ((i:Int)+c) (o.length:Int)=((i:Int)+c) % (o.length:Int):=ad8 (by omega)
    have m0:=Int.emod_nonneg ((i:Int)+c) (show (o.length:Int)≠0 by omega)
    have m1:=Int.emod_lt_of_pos ((i:Int)+c) (show (0:Int)<(o.length:Int) by omega)
    generalize ((i:Int)+c) % (o.length:Int)=md at em m0 m1
    have ew2:ad ((o.length:Int) - 1)=(o.length:Int) - 1:=aZ (by omega) (by omega)
    have ew3:ad ((o.length:Int) - 1 - md)=(o.length:Int) - 1 - md:=aZ (by omega) (by omega)
    simp only [aw (show (i:Int)<(o.length:Int) by omega),f9,hc,f7,ZJ,af,show (!((o.length:Int)==0))=true by rw [show ((o.length:Int)==0)=false by simp only [WW]; omega]; rfl,show (!((2:Int)==0))=true from rfl,ew,em,ew2,ew3,aW (n:=o.length) (by omega) hlt]
    have fin : ∀ k:Int,0≤k→k<o.length→∃ s',((some k:Option Int).bind fun s5=>(ac o s5).bind fun _=>(ac o s5).bind fun v7=>bif aJ q.length ([v7]:List Df).length 32 then some (q++([v7]:List Df)) else none).bind (fun s3=>(some (Sum.inl (s3,(i:Int)+1)):Option (If⊕List Df)))=some (Sum.inl s')∧(∃ i:Nat,s'.2=(i:Int)∧i≤o.length∧s'.1.length=i∧∀ d∈s'.1,d∈o)∧o.length - s'.2.toNat<o.length - i:=by
     intro k k0 k1
     simp only [f7,ZJ,aT ([],[]) k0 k1]
     rw [show aJ q.length ([o.getD k.toNat ([],[])]:List Df).length 32=true from aY (by simp only [Vp]; omega) (by omega)]
     refine ⟨_,rfl,⟨i+1,rfl,by omega,by simp [hlen],fun d hd=>?_⟩,by dsimp only; omega⟩
     rcases Wc.1 hd with hd | hd
     ·exact hin d hd
     ·rw [Vt.1 hd]
      exact de _ (by omega)
    cases (Int.tmod by_ 2 != 0)
    ·exact fin md m0 m1
    ·exact fin ((o.length:Int) - 1 - md) (by omega) (by omega)
   ·left
    simp only [aG (show ¬ (i:Int)<(o.length:Int) by omega),no]
    exact ⟨_,rfl,hin,by omega⟩) (s:=([],0)) ⟨0,rfl,by omega,rfl,fun d hd=>(by cases hd)⟩ (by dsimp only; omega)
 rw [g1]
 exact ⟨r,rfl,fun d hd=>h2 d (g2 d hd),by omega⟩
theorem Lz (l:List Int) (hl : ∀ x∈l,rk x) : ∃ c,jB l=some c∧G3 c∧c.1.length≤512:=by
 unfold jB
 obtain ⟨p,hp,hp1,hp2⟩:=Q6 l hl
 rw [hp]
 simp only [f7,ZJ]
 obtain ⟨c,e,hc,hc1,hc2⟩:=Ot p hp2 hp1 Ex
 rw [hc]
 exact ⟨c,rfl,hc1,hc2⟩
theorem aj0 {m n:Nat} (h:m+n≤2097152):aJ m n 24=true:=aY (by omega) (by omega)
theorem agL {x:Int} (h:rk x) : ∃ e,mJ x=some e:=by
 unfold mJ
 obtain ⟨r,e1,g,k⟩:=uB h (n:=4096) (by omega) (by omega)
 obtain ⟨n,rfl⟩ : ∃ n:Nat,r=(n:Int):=⟨r.toNat,by omega⟩
 have q1:ad (Int.tdiv (n:Int) 4)=((n / 4:Nat):Int):=by rw [show Int.tdiv (n:Int) 4=((n / 4:Nat):Int) from NF n 4]; exact aZ (by omega) (by omega)
 have q2:ad (Int.tdiv (n:Int) 20)=((n / 20:Nat):Int):=by rw [show Int.tdiv (n:Int) 20=((n / 20:Nat):Int) from NF n 20]; exact aZ (by omega) (by omega)
 have q3:Int.tmod ((n / 4:Nat):Int) 5=((n / 4 % 5:Nat):Int):=Cd (n / 4) 5
 have q4:Int.tmod ((n / 20:Nat):Int) 4=((n / 20 % 4:Nat):Int):=Cd (n / 20) 4
 rw [e1]
 simp only [f7,ZJ,af,show (!((4:Int)==0))=true from rfl,show (!((5:Int)==0))=true from rfl,show (!((20:Int)==0))=true from rfl,f9,q1,q2,q3,q4]
 rw [aB (xs:=([0,0,1,8,4]:List Int)) 0 (show n / 4 % 5<5 by omega),aB (xs:=([0,0,2,8]:List Int)) 0 (show n / 20 % 4<4 by omega)]
 exact ⟨_,rfl⟩
theorem W8 {c:ax} (ht:eV c) {l:List Int} (hl : ∀ x∈l,rk x) : ∃ r,lF c l=some r∧r.length≤6:=by
 unfold lF
 obtain ⟨r,h1,h2⟩:=fw (f:=kO c l) (fun s=>7 - s.2.toNat) (fun s=>∃ i:Nat,s.2=(i:Int)∧i≤6∧s.1.length≤i) (fun r=>r.length≤6)
  (fun s hs=>by
   obtain ⟨o,s2⟩:=s
   obtain ⟨i,e1,hi,hlen⟩:=hs
   dsimp only at e1 hlen
   subst e1
   unfold kO
   simp only [kT]
   by_cases hlt:(i:Int)<l.length∧(i:Int)<6
   ·right
    have hp : ∃ r,mi l (o,(i:Int)) c=some r∧r.length=o.length+1:=by
     unfold mi
     dsimp only
     obtain ⟨q,eq,g,k⟩:=uB (hl (l.getD i 0) (de 0 (by omega))) (n:=4096) (by omega) (by omega)
     obtain ⟨n,rfl⟩ : ∃ n:Nat,q=(n:Int):=⟨q.toNat,by omega⟩
     have q1:ad (Int.tdiv (n:Int) 21)=((n / 21:Nat):Int):=by rw [show Int.tdiv (n:Int) 21=((n / 21:Nat):Int) from NF n 21]; exact aZ (by omega) (by omega)
     simp only [aB (0:Int) (show i<l.length by omega),f7,ZJ,eq,af,show (!((7:Int)==0))=true from rfl,show (!((3:Int)==0))=true from rfl,show (!((21:Int)==0))=true from rfl,f9,afq,q1]
     have h7 : ∃ x,(bif (bif decide ((0:Int)<(c.2.2.2.1.length:Int)) then decide ((0:Int)<Int.tmod (n:Int) 3) else false) then bif (!((c.2.2.2.1.length:Int)==0)) then (ac c.2.2.2.1 (Int.tmod ((n / 21:Nat):Int) (c.2.2.2.1.length:Int))).bind fun _=>(ac c.2.2.2.1 (Int.tmod ((n / 21:Nat):Int) (c.2.2.2.1.length:Int))).bind fun v9=>some (v9.1,ad (Int.tmod (n:Int) 7 - 3)) else none else some (yD,ad (Int.tmod (n:Int) 7 - 3)))=some x:=by
      simp only [kT]
      by_cases hz:(0:Int)<(c.2.2.2.1.length:Int)∧(0:Int)<Int.tmod (n:Int) 3
      ·rw [aw hz,show (!((c.2.2.2.1.length:Int)==0))=true by rw [show ((c.2.2.2.1.length:Int)==0)=false by simp only [WW]; omega]; rfl,Cd]
       simp only [f9]
       rw [aB (([],0):List UInt8×Int) (Nat.mod_lt _ (by omega))]
       exact ⟨_,rfl⟩
      ·rw [aG hz]
       exact ⟨_,rfl⟩
     obtain ⟨x7,hx7⟩:=h7
     have h10 : ∃ x,(bif (bif decide ((0:Int)<(c.2.2.2.2.2.2.1.length:Int)) then Int.tmod (n:Int) 3==2 else false) then bif (!((c.2.2.2.2.2.2.1.length:Int)==0)) then (ac c.2.2.2.2.2.2.1 (Int.tmod ((n / 21:Nat):Int) (c.2.2.2.2.2.2.1.length:Int))).bind fun _=>(ac c.2.2.2.2.2.2.1 (Int.tmod ((n / 21:Nat):Int) (c.2.2.2.2.2.2.1.length:Int))).bind fun v12=>some (v12,x7.2) else none else some x7)=some x:=by
      simp only [pm,kT]
      by_cases hz:(0:Int)<(c.2.2.2.2.2.2.1.length:Int)∧Int.tmod (n:Int) 3=2
      ·rw [aw hz,aG (show ¬ (c.2.2.2.2.2.2.1.length:Int)=0 by omega),Cd]
       simp only [f9,Wn]
       rw [aB ([]:List UInt8) (Nat.mod_lt _ (by omega))]
       exact ⟨_,rfl⟩
      ·rw [aG hz]
       exact ⟨_,rfl⟩
     obtain ⟨x10,hx10⟩:=h10
     refine ⟨o++[x10],?_,by simp⟩
     refine (Xw (fun z:Option (List UInt8×Int)=>z.bind _) hx7).trans ?_
     simp only [f7,ZJ]
     refine (Xw (fun z:Option (List UInt8×Int)=>z.bind _) hx10).trans ?_
     simp only [f7,ZJ]
     rw [show aJ o.length ([x10]:List (List UInt8×Int)).length 24=true from aj0 (by simp only [Vp]; omega)]
     rfl
    obtain ⟨r,hp1,hp2⟩:=hp
    simp only [aw hlt,f9,hp1,f7,ZJ,aW (n:=6) (by omega) (show i<6 by omega)]
    exact ⟨_,rfl,⟨i+1,rfl,by omega,by dsimp only; omega⟩,by dsimp only; omega⟩
   ·left
    simp only [aG hlt,no]
    exact ⟨_,rfl,by omega⟩) (s:=([],0)) ⟨0,rfl,by omega,by simp⟩ (by dsimp only; omega)
 rw [h1]
 exact ⟨r,rfl,h2⟩
set_option maxRecDepth 100000
theorem St:oa=some true:=by kernel_rfl
set_option maxRecDepth 4000
theorem od (l:List Int) (h:l.length≤1048576):cG l l=some true:=by
 unfold cG
 rw [show ((l.length:Int) != (l.length:Int))=false by simp,no]
 rcases cE (f:=fX l l) l.length (by omega) (fun _=>True) (fun _=>false)
  (fun i hi _=>by
   left
   refine ⟨trivial,?_⟩
   unfold fX
   simp only [aw (show (i:Int)<(l.length:Int) by omega),f9,aB 0 hi,f7,ZJ,Yy,no,aW (n:=l.length) (by omega) hi])
  (fun _=>by unfold fX; rw [aG (by omega)]; rfl) with ⟨_,he⟩ | ⟨i,_,_,hP,_⟩
 ·rw [he]; rfl
 ·exact absurd trivial hP
theorem Ra (t:Th) (h:Bw t):Itr.it (fK t t) 0=some (.inl ()):=by
 obtain ⟨h1,h2,h3⟩:=h
 rcases cE (f:=fK t t) t.1.length (by omega) (fun _=>True) (fun _=>.inr (.inr false))
  (fun i hi _=>by
   left
   refine ⟨trivial,?_⟩
   unfold fK
   have hf:=h3 _ (de (0,[]) hi)
   simp only [aw (show (i:Int)<(t.1.length:Int) by omega),f9,aB (0,[]) hi,f7,Yy,no,Wn,od _ hf,WM,aW (n:=t.1.length) (by omega) hi])
  (fun _=>by unfold fK; rw [aG (by omega)]; rfl) with ⟨_,he⟩ | ⟨i,_,_,hP,_⟩
 ·exact he
 ·exact absurd trivial hP
theorem T3 (s:aO) (hs:cT s):mc s s=some true:=by
 obtain ⟨h1,h2,h3,h4,h5,h6,h7⟩:=hs
 unfold mc
 simp only [Yy,V9,ada,WM,no]
 have e1:Itr.it (fL s s) 0=some (.inl ()):=by
  rcases cE (f:=fL s s) s.1.length (by omega) (fun _=>True) (fun _=>false)
   (fun i hi _=>by
    left
    refine ⟨trivial,?_⟩
    unfold fL
    have ht:=h2 _ (de ([],[],0,false) hi)
    simp only [aw (show (i:Int)<(s.1.length:Int) by omega),f9,aB ([],[],0,false) hi,f7,Yy,no,Wn,od _ ht.2.1,WM,Ra _ ht,aW (n:=s.1.length) (by omega) hi])
   (fun _=>by unfold fL; rw [aG (by omega)]; rfl) with ⟨_,he⟩ | ⟨i,_,_,hP,_⟩
  ·exact he
  ·exact absurd trivial hP
 have e3:Itr.it (fM s s) 0=some (.inl ()):=by
  rcases cE (f:=fM s s) s.2.2.1.length (by omega) (fun _=>True) (fun _=>false)
   (fun i hi _=>by
    left
    refine ⟨trivial,?_⟩
    unfold fM
    have ht:=h5 _ (de [] hi)
    simp only [aw (show (i:Int)<(s.2.2.1.length:Int) by omega),f9,aB [] hi,f7,od _ ht,WM,no,aW (n:=s.2.2.1.length) (by omega) hi])
   (fun _=>by unfold fM; rw [aG (by omega)]; rfl) with ⟨_,he⟩ | ⟨i,_,_,hP,_⟩
  ·exact he
  ·exact absurd trivial hP
 rw [e1]
 simp only [f7,ZJ,e3,od _ h3,od _ h6,od _ h7,f9]
theorem afM (s:aO) (hs:cT s) (hi:i<s.1.length) (z:ld):Itr.it (gR s ((i:Int),z)) (0,([]:List Fr),(s.1.getD i ([],[],0,false)).2)=some (s.1.getD i ([],[],0,false)):=by
 obtain ⟨h1,h2,h3⟩:=hs.2.1 _ (de ([],[],0,false) hi)
 have et:=aB (([],[],0,false):Th) hi
 generalize s.1.getD i ([],[],0,false)=t at *
 exact c9 (f:=gR s ((i:Int),z)) (fun y=>t.1.length - y.1.toNat) (fun _=>t) (fun y=>∃ k:Nat,y=((k:Int),t.1.take k,t.2)∧k≤t.1.length)
  (fun y hy=>by
   obtain ⟨k,rfl,hk⟩:=hy
   unfold gR
   rcases WG k t.1.length with hlt | hge
   ·right
    refine ⟨(((k+1:Nat):Int),t.1.take (k+1),t.2),?_,⟨k+1,rfl,by omega⟩,by dsimp only; omega,rfl⟩
    simp only [et,f7,ZJ,aw (show (k:Int)<(t.1.length:Int) by omega),f9,aB (0,[]) hlt,aW (n:=t.1.length) (by omega) hlt,eF (0,[]) hlt]
    rw [jv (aY (by simp only [V7,Vp]; omega) (by omega))]
    rfl
   ·left
    have:k=t.1.length:=by omega
    subst this
    simp [et]) (s:=(0,[],t.2)) ⟨0,rfl,by omega⟩ (by show t.1.length - (0:Int).toNat<_; omega)
theorem ahs (s:aO) (hs:cT s) (z:ld) (hz:z.1=[]):Itr.it (gU s) (0,z)=some (s.1,z.2):=by
 have h1:=hs.1
 refine c9 (f:=gU s) (fun y=>s.1.length - y.1.toNat) (fun _=>(s.1,z.2)) (fun y=>∃ i:Nat,y=((i:Int),s.1.take i,z.2)∧i≤s.1.length)
  (fun y hy=>by
   obtain ⟨i,rfl,hi⟩:=hy
   unfold gU
   rcases WG i s.1.length with hlt | hge
   ·right
    refine ⟨(((i+1:Nat):Int),s.1.take (i+1),z.2),?_,⟨i+1,rfl,by omega⟩,by dsimp only; omega,rfl⟩
    have e2:aJ (s.1.take i).length ([s.1.getD i ([],[],0,false)]:List Th).length 64=true:=aY (by simp only [V7,Vp]; omega) (by omega)
    have e3:=afM s hs hlt (s.1.take i,z.2)
    simp only [aw (show (i:Int)<(s.1.length:Int) by omega),f9,aB ([],[],0,false) hlt,f7]
    refine (Xw (fun o:Option Th=>(o.bind fun s10=>af (aJ (s.1.take i).length ([s10]:List Th).length 64) (some (s.1.take i++([s10]:List Th),z.2))).bind fun s3=>(some (Sum.inl (ad ((i:Int)+1),s3)):Option (pZ⊕ld))) e3).trans ?_
    simp only [f7,ZJ,af,e2,f9,aW (n:=s.1.length) (by omega) hlt,eF ([],[],0,false) hlt]
    rfl
   ·left
    have:i=s.1.length:=by omega
    subst this
    simp) ⟨0,?_,by omega⟩ (by show s.1.length - (0:Int).toNat<_; omega)
 obtain ⟨z1,z2⟩:=z
 dsimp only at hz
 subst hz
 rfl
theorem ZP (s:aO) (hs:cT s):lI s=some s:=by
 unfold lI
 dsimp only
 rw [ahs s hs _ rfl]
 rfl
def aiH:Bool:=(List.range 70).all fun n=>match gT (n:Int) with | some l=>l==List.replicate n 1 | none=>false
theorem OK:aiH=true:=by kernel_rfl
theorem zi {n:Nat} (h:n<70):gT (n:Int)=some (List.replicate n 1):=by
 have:=Vx.1 OK n (Y0.2 h)
 split at this
 ·rename_i l hl
  rw [hl,show l=List.replicate n 1 by simpa using this]
 ·cases this
theorem P8 (l:List Int) (hl:l.length≤1048576) (x:Int):iw l x=some (decide (x∈l)):=by
 unfold iw mQ
 rcases cE (f:=gm l x) l.length (by omega) (fun i=>¬ x=l.getD i 0) (fun i=>(i:Int))
  (fun i hi _=>by
   unfold gm
   simp only [aw (show (i:Int)<(l.length:Int) by omega),f9,aB 0 hi,f7,ZJ,aW (n:=l.length) (by omega) hi]
   by_cases h:x=l.getD i 0
   ·right; rw [bt h]; exact ⟨fun hn=>hn h,rfl⟩
   ·left; rw [bf h]; exact ⟨h,rfl⟩)
  (fun _=>by unfold gm; rw [aG (by omega)]; rfl) with ⟨hP,he⟩ | ⟨i,hi,_,hP,he⟩
 ·rw [he,aG (p:=x∈l)]
  ·rfl
  ·intro hm
   obtain ⟨j,hj,rfl⟩:=ZG.1 hm
   exact hP j hj (by simp [hj])
 ·rw [he,aw (p:=x∈l)]
  ·simp only [f7,ZJ]
   rw [aw (by omega)]
  ·have:x=l.getD i 0:=ahR hP
   rw [this]
   exact de 0 hi
theorem ajW (l:List Int) (hl:l.length≤1048576) (x:Int):nQ l x=some (decide (x∈l)):=by
 unfold nQ
 rcases cE (f:=jp l x) l.length (by omega) (fun i=>¬ l.getD i 0=x) (fun i=>true)
  (fun i hi _=>by
   unfold jp
   simp only [aw (show (i:Int)<(l.length:Int) by omega),f9,aB 0 hi,f7,ZJ,aW (n:=l.length) (by omega) hi]
   by_cases h:l.getD i 0=x
   ·right; rw [bt h]; exact ⟨fun hn=>hn h,rfl⟩
   ·left; rw [bf h]; exact ⟨h,rfl⟩)
  (fun _=>by unfold jp; rw [aG (by omega)]; rfl) with ⟨hP,he⟩ | ⟨i,hi,_,hP,he⟩
 ·rw [he,aG (p:=x∈l)]
  ·rfl
  ·intro hm
   obtain ⟨j,hj,rfl⟩:=ZG.1 hm
   exact hP j hj (by simp [hj])
 ·rw [he,aw (p:=x∈l)]
  ·rfl
  ·have:l.getD i 0=x:=ahR hP
   rw [← this]
   exact de 0 hi
def nB (c:CC) (s:aO) (k:Nat):Bool:=
 if (bL s k).2.2.2=true then decide ((bL s k).2.1.length=0∧(bL s k).2.2.1=0)
 else decide (0≤(bL s k).2.2.1∧(bL s k).2.2.1≤1048576∧(0≤cD s∨dB (eA c (bL s k)) (bL s k).1.length=true))
def sG (s:aO) (k:Nat):Prop:=-1≤s.2.2.2.1.getD k 0∧s.2.2.2.1.getD k 0<s.1.length
instance (s:aO) (k:Nat):Decidable (sG s k):=by unfold sG; infer_instance
def dD (s:aO):Nat→Int
 | 0=>0
 | n+1=>if (bL s n).2.2.2=true then dD s n else dD s n+1
def tq (c:CC) (s:aO):Prop:=(1≤s.1.length∧s.1.length≤65)∧(∀ k,k<s.2.2.2.1.length→sG s k)∧(∀ k,k<s.1.length→nB c s k=true)∧dD s s.1.length≤5
instance (c:CC) (s:aO):Decidable (tq c s):=by unfold tq; infer_instance
theorem A8 (s:aO) : ∀ n,0≤dD s n∧dD s n≤n:=by
 intro n
 induction n with
 | zero=>simp [dD]
 | succ n ih=>unfold dD; split <;> omega
theorem TY (h:AtP c s i fs f st w x k pc) :
  ph (c,e,s,acc) (i:Int)=some (dB x (fs.length+1)):=JS (n:=0) (e:=e) (acc:=acc) h
theorem aiB (hc:bj c) (e:bI) (s:aO) (acc:List ((Int×Int×Bool)×Bool)) (t:Th) (hn:t.1.length≤8) (h : ∀ g∈t.1,tH c g):Itr.it (fg (c,e,s,acc) t) 0=some (.inl ()):=by
 rcases cE (f:=fg (c,e,s,acc) t) t.1.length (by omega) (fun _=>True) (fun _=>false)
  (fun i hi _=>by
   left
   refine ⟨trivial,?_⟩
   unfold fg
   obtain ⟨k,pc,h1,h2,h3,h4⟩:=h _ (de (0,[]) hi)
   have hp:=ME (oC hc.2.1 hc.2.2.2) h3 (by omega)
   have hl:ac c.2.2.1 (k:Int)=some (c.2.2.1.getD k 0):=aB 0 (by have:=h3.1; have:=hc.2.1.1.2.1; omega)
   simp only [aw (show (i:Int)<(t.1.length:Int) by omega),f9,aB (0,[]) hi,f7,h1,mU,aG (show ¬ ((pc:Int)<0∨(c.1.length:Int)≤(pc:Int)) by omega),Wn,hp,hl,nf h4,no,aW (n:=t.1.length) (by omega) hi])
  (fun _=>by unfold fg; rw [aG (by omega)]; rfl) with ⟨_,he⟩ | ⟨i,_,_,hP,_⟩
 ·exact he
 ·exact absurd trivial hP
theorem ai7 (hc:bj c) (t:Th) (hn:t.1.length≤8) (h : ∀ g∈t.1,tH c g):Itr.it (fk c t) 0=some (.inl ()):=by
 rcases cE (f:=fk c t) t.1.length (by omega) (fun _=>True) (fun _=>false)
  (fun i hi _=>by
   left
   refine ⟨trivial,?_⟩
   unfold fk
   obtain ⟨k,pc,h1,h2,h3,h4⟩:=h _ (de (0,[]) hi)
   have hp:=Ii (oC hc.2.1 hc.2.2.2) h3
   have hl:ac c.2.2.1 (k:Int)=some (c.2.2.1.getD k 0):=aB 0 (by have:=h3.1; have:=hc.2.1.1.2.1; omega)
   simp only [aw (show (i:Int)<(t.1.length:Int) by omega),f9,aB (0,[]) hi,f7,h1,mU,aG (show ¬ ((pc:Int)<0∨(c.1.length:Int)≤(pc:Int)) by omega),hp,hl,nf h4,no,aW (n:=t.1.length) (by omega) hi])
  (fun _=>by unfold fk; rw [aG (by omega)]; rfl) with ⟨_,he⟩ | ⟨i,_,_,hP,_⟩
 ·exact he
 ·exact absurd trivial hP
theorem aeU (hc:bj c)    (hs:StOk c s)  (hk:k<s.1.length):mh (c,e,s,acc) (k:Int)=some (nB c s k):=by
 unfold mh nB
 rcases jJ hs hk with ⟨h1,h2⟩ | ⟨h1,fs,f,st,w,h2,h3⟩
 ·simp only [bC (fJ hk),f7,ZJ,h1,h2,List.length_nil,f9,We,pm,show decide (((0:Nat):Int)=0)=true from rfl]
  by_cases hl:(bL s k).2.1.length=0
  ·rw [aw (show ((bL s k).2.1.length:Int)=0 by omega)]
   simp only [f9,bC (fJ hk),f7,ZJ,hl,ajr]
  ·rw [aG (show ¬ ((bL s k).2.1.length:Int)=0 by omega),aG (fun h=>hl h.1)]
   rfl
 ·obtain ⟨k',pc,hA⟩:=iK (s:=s) (i:=k) (by rw [fJ hk,h2]) h3
  have ht:=bC hA.t
  have hst:=TY (e:=e) (acc:=acc) hA
  have hfr:=aiB hc e s acc (fs++[f],st,w,false) (by have:=h3.n; simp only [Vs,Vp]; omega) h3.fr
  have hx:eA c (fs++[f],st,w,false)=cH c f.1.toNat:=by rw [eA,ef]
  have hn:=h3.n
  have hm:=h3.m
  rw [h2]
  simp only [ht,f7,ZJ,no,XV,WE,Vs,Vp,bf (show ¬ (((fs.length+1:Nat):Int))=0 by omega),Wn,f9,aG (show ¬ (8:Int)<((fs.length+1:Nat):Int) by omega),aG (show ¬ (16:Int)<(st.length:Int) by omega),hx]
  by_cases hw:w<0
  ·rw [aw hw,aG (show ¬ (0≤w∧w≤1048576∧(0≤cD s∨dB (cH c f.1.toNat) (fs.length+1)=true)) by omega)]
   rfl
  rw [aG hw]
  simp only [Wn,f9,no,ht,f7,ZJ]
  by_cases hw2:1048576<w
  ·rw [aw hw2,aG (show ¬ (0≤w∧w≤1048576∧(0≤cD s∨dB (cH c f.1.toNat) (fs.length+1)=true)) by omega)]
   rfl
  rw [aG hw2]
  simp only [no,hfr,f7,ZJ]
  by_cases ho:0≤cD s
  ·have ho' : (0:Int)≤s.2.2.2.2.2.2.2.2.2.1:=ho
   rw [aw (show (0≤w∧w≤1048576∧(0≤cD s∨dB (cH c f.1.toNat) (fs.length+1)=true)) from ⟨by omega,by omega, .inl ho⟩)]
   simp only [ho',YD,WM,no,f9,f7,ZJ]
  ·have ho' : ¬ (0:Int)≤s.2.2.2.2.2.2.2.2.2.1:=ho
   simp only [ho',Yv,Wn,no,f9,hst,f7,ZJ]
   congr 1
   cases hb:dB (cH c f.1.toNat) (fs.length+1)
   ·rw [eq_comm,YH]
    rintro ⟨_,_,h | h⟩
    ·exact ho h
    ·cases h
   ·rw [eq_comm,afZ]
    exact ⟨by omega,by omega, .inr rfl⟩
theorem adn (hc:bj c)  (hs:StOk c s)  (hk:k<s.1.length):lr c (bL s k) (decide ((0:Int)≤s.2.2.2.2.2.2.2.2.2.1))=some (nB c s k):=by
 unfold lr nB
 rcases jJ hs hk with ⟨h1,h2⟩ | ⟨h1,fs,f,st,w,h2,h3⟩
 ·simp only [h1,h2,List.length_nil,f9,We,pm,kT]
  congr 1
  rw [aat]
  omega
 ·obtain ⟨k',pc,hA⟩:=iK (s:=s) (i:=k) (by rw [fJ hk,h2]) h3
  have hfr:=ai7 hc (fs++[f],st,w,false) (by have:=h3.n; simp only [Vs,Vp]; omega) h3.fr
  have hx:eA c (fs++[f],st,w,false)=cH c f.1.toNat:=by rw [eA,ef]
  have hxi:ac c.1 f.1=some (cH c f.1.toNat):=by rw [hA.pc1]; exact aB _ hA.pc2
  have hn:=h3.n
  have hm:=h3.m
  have efr:ac (fs++[f]) (fs.length:Int)=some f:=by simp [ac]
  have emx:(if (0:Int) > (fs.length:Int) then (0:Int) else (fs.length:Int))=(fs.length:Int):=by rw [if_neg (by omega)]
  have ewl:ad (((fs.length+1:Nat):Int) - 1)=(fs.length:Int):=by rw [aZ (by omega) (by omega)]; omega
  have esd:=Kg (cH c f.1.toNat) (fs.length+1) (by omega)
  rw [h2]
  simp only [no,XV,WE,Vs,Vp,aG (show ¬ ((fs.length+1:Nat):Int)<1 by omega),aG (show ¬ (8:Int)<((fs.length+1:Nat):Int) by omega),aG (show ¬ (16:Int)<(st.length:Int) by omega),hx,hfr,f7,ZJ,ewl,emx,mU]
  by_cases hw:w<0∨1048576<w
  ·rw [aw hw,aG (show ¬ (0≤w∧w≤1048576∧(0≤cD s∨dB (cH c f.1.toNat) (fs.length+1)=true)) by omega)]
   rfl
  rw [aG hw]
  simp only [no]
  by_cases ho:0≤cD s
  ·have ho' : (0:Int)≤s.2.2.2.2.2.2.2.2.2.1:=ho
   rw [aw (show (0≤w∧w≤1048576∧(0≤cD s∨dB (cH c f.1.toNat) (fs.length+1)=true)) from ⟨by omega,by omega, .inl ho⟩)]
   simp only [ho',YD,WM,no,f9,f7,ZJ]
  ·have ho' : ¬ (0:Int)≤s.2.2.2.2.2.2.2.2.2.1:=ho
   simp only [ho',Yv,Wn,no,f9,efr,hxi,esd,f7,ZJ]
   congr 1
   cases hb:dB (cH c f.1.toNat) (fs.length+1)
   ·rw [eq_comm,YH]
    rintro ⟨_,_,h | h⟩
    ·exact ho h
    ·cases h
   ·rw [eq_comm,afZ]
    exact ⟨by omega,by omega, .inr rfl⟩
theorem UQ (c:CC) (e:bI) (s:aO) (acc:List ((Int×Int×Bool)×Bool)) (hn:s.1.length≤1048576):kL (c,e,s,acc)=some (dD s s.1.length):=by
 unfold kL
 rw [c9 (f:=lT (c,e,s,acc)) (fun y=>s.1.length - y.2.toNat) (fun _=>dD s s.1.length) (fun y=>∃ k:Nat,y=(dD s k,(k:Int))∧k≤s.1.length)
  (fun y hy=>by
   obtain ⟨k,rfl,hk⟩:=hy
   unfold lT gk
   rcases WG k s.1.length with hlt | hge
   ·right
    refine ⟨(dD s (k+1),((k+1:Nat):Int)),?_,⟨k+1,rfl,by omega⟩,by dsimp only; omega,rfl⟩
    have hl:=A8 s k
    simp only [aw (show (k:Int)<(s.1.length:Int) by omega),f9,bC (fJ hlt),f7,ZJ,aW (n:=s.1.length) (by omega) hlt]
    rw [show dD s (k+1)=if (bL s k).2.2.2=true then dD s k else dD s k+1 from rfl]
    cases (bL s k).2.2.2
    ·simp only [Wn,f9,f7,ZJ,XV,WE,aZ (x:=dD s k+1) (by omega) (by omega)]
     rfl
    ·simp only [WM,no,f7,ZJ,We,Int.add_zero,aZ (x:=dD s k) (by omega) (by omega)]
     rfl
   ·left
    have:k=s.1.length:=by omega
    subst this
    simp only [aG (show ¬ (s.1.length:Int)<(s.1.length:Int) by omega),no]) (s:=(0,0)) ⟨0,rfl,by omega⟩ (by show s.1.length - (0:Int).toNat<_; omega)]
 rfl
theorem YJ (hc:bj c) (e:bI)  (acc:List ((Int×Int×Bool)×Bool)) (hs:StOk c s) (hsm:cT s) : ∃ b,lu (c,e,s,acc)=some b∧(b=true↔tq c s):=by
 unfold lu
 dsimp only
 have hn:=hs.n
 rw [nf (show (s.2.1.length:Int)=c.2.2.2.1.length by rw [hs.fit.vars]),nf (show (s.2.2.1.length:Int)=c.2.2.2.2.1.length by rw [hs.fit.qs]),nf (show (s.2.2.2.1.length:Int)=c.2.2.2.2.2.1.length by rw [hs.fit.own]),nf (show (s.2.2.2.2.1.length:Int)=c.2.2.2.2.2.2.1.length by rw [hs.fit.files])]
 simp only [no,pm,mU]
 by_cases h1:1≤s.1.length∧s.1.length≤65
 rotate_left
 ·rw [aw (by omega)]
  exact ⟨false,rfl,fun h=>(by cases h),fun h=>absurd h.1 h1⟩
 rw [aG (by omega)]
 simp only [no]
 have l1:Itr.it (fj (c,e,s,acc)) 0=some (.inl ()):=by
  rcases cE (f:=fj (c,e,s,acc)) s.2.2.1.length (by have:=hsm.2.2.2.1; omega) (fun _=>True) (fun _=>false)
   (fun i hi _=>by
    left
    refine ⟨trivial,?_⟩
    unfold fj
    have hq:=hs.fit.qs
    have hcap:=hs.cap i (by omega)
    simp only [aw (show (i:Int)<(s.2.2.1.length:Int) by omega),f9,aB [] hi,aB ([],0) (show i<c.2.2.2.2.1.length by omega),f7,aG (show ¬ (c.2.2.2.2.1.getD i ([],0)).2<((s.2.2.1.getD i []).length:Int) by omega),no,aW (n:=s.2.2.1.length) (by have:=hsm.2.2.2.1; omega) hi])
   (fun _=>by unfold fj; rw [aG (by dsimp only; omega)]; rfl) with ⟨_,he⟩ | ⟨i,_,_,hP,_⟩
  ·exact he
  ·exact absurd trivial hP
 rw [l1]
 simp only [f7,ZJ]
 have ho:=hsm.2.2.2.2.2.1
 rcases cE (f:=gQ (c,e,s,acc)) s.2.2.2.1.length (by omega) (sG s) (fun _=>false)
  (fun i hi _=>by
   unfold gQ
   simp only [aw (show (i:Int)<(s.2.2.2.1.length:Int) by omega),f9,aB 0 hi,f7,ZJ,mU,aW (n:=s.2.2.2.1.length) (by omega) hi]
   by_cases h:sG s i
   ·left
    have h' := h
    unfold sG at h'
    rw [aG (by omega)]
    exact ⟨h,rfl⟩
   ·right
    have h' := h
    unfold sG at h'
    rw [aw (by omega)]
    exact ⟨h,rfl⟩)
  (fun _=>by unfold gQ; rw [aG (by dsimp only; omega)]; rfl) with ⟨hO,he⟩ | ⟨i,hi,_,hP,he⟩
 rotate_left
 ·rw [he]
  exact ⟨false,rfl,fun h=>(by cases h),fun h=>absurd (h.2.1 i hi) hP⟩
 rw [he]
 simp only [f7,ZJ]
 rcases cE (f:=gN (c,e,s,acc)) s.1.length (by omega) (fun k=>nB c s k=true) (fun _=>false)
  (fun i hi _=>by
   unfold gN
   simp only [aw (show (i:Int)<(s.1.length:Int) by omega),f9,bC (fJ hi),f7,ZJ,aeU hc hs hi,aW (n:=s.1.length) (by omega) hi]
   cases nB c s i
   ·right; exact ⟨by simp,rfl⟩
   ·left; exact ⟨rfl,rfl⟩)
  (fun _=>by unfold gN; rw [aG (by dsimp only; omega)]; rfl) with ⟨hS,he⟩ | ⟨i,hi,_,hP,he⟩
 rotate_left
 ·rw [he]
  exact ⟨false,rfl,fun h=>(by cases h),fun h=>absurd (h.2.2.1 i hi) hP⟩
 rw [he]
 simp only [f7,ZJ,UQ c e s [] hn]
 exact ⟨_,rfl,fun h=>⟨h1,hO,hS,by simpa using h⟩,fun h=>by simpa using h.2.2.2⟩
theorem Zh (hc:bj c)  (hs:StOk c s) (hsm:cT s) : ∃ b,lb c s=some b∧(b=true↔tq c s):=by
 unfold lb
 have hn:=hs.n
 rw [nf (show (s.2.1.length:Int)=c.2.2.2.1.length by rw [hs.fit.vars]),nf (show (s.2.2.1.length:Int)=c.2.2.2.2.1.length by rw [hs.fit.qs]),nf (show (s.2.2.2.1.length:Int)=c.2.2.2.2.2.1.length by rw [hs.fit.own]),nf (show (s.2.2.2.2.1.length:Int)=c.2.2.2.2.2.2.1.length by rw [hs.fit.files])]
 simp only [no,mU]
 by_cases h1:1≤s.1.length∧s.1.length≤65
 rotate_left
 ·rw [aw (by omega)]
  exact ⟨false,rfl,fun h=>(by cases h),fun h=>absurd h.1 h1⟩
 rw [aG (by omega)]
 simp only [no]
 have l1:Itr.it (eT c s) 0=some (.inl ()):=by
  rcases cE (f:=eT c s) s.2.2.1.length (by have:=hsm.2.2.2.1; omega) (fun _=>True) (fun _=>false)
   (fun i hi _=>by
    left
    refine ⟨trivial,?_⟩
    unfold eT
    have hq:=hs.fit.qs
    have hcap:=hs.cap i (by omega)
    simp only [aw (show (i:Int)<(s.2.2.1.length:Int) by omega),f9,aB [] hi,aB ([],0) (show i<c.2.2.2.2.1.length by omega),f7,aG (show ¬ (c.2.2.2.2.1.getD i ([],0)).2<((s.2.2.1.getD i []).length:Int) by omega),no,aW (n:=s.2.2.1.length) (by have:=hsm.2.2.2.1; omega) hi])
   (fun _=>by unfold eT; rw [aG (by omega)]; rfl) with ⟨_,he⟩ | ⟨i,_,_,hP,_⟩
  ·exact he
  ·exact absurd trivial hP
 rw [l1]
 simp only [f7,ZJ]
 have ho:=hsm.2.2.2.2.2.1
 rcases cE (f:=gF s) s.2.2.2.1.length (by omega) (sG s) (fun _=>false)
  (fun i hi _=>by
   unfold gF
   dsimp only
   simp only [aw (show (i:Int)<(s.2.2.2.1.length:Int) by omega),f9,aB 0 hi,f7,ZJ,aW (n:=s.2.2.2.1.length) (by omega) hi]
   by_cases hz:s.2.2.2.1.getD i 0 < -1
   ·right
    rw [aw hz]
    exact ⟨by unfold sG; omega,rfl⟩
   rw [aG hz]
   simp only [Wn,f9,no,f7,ZJ]
   by_cases h:sG s i
   ·left
    have h' := h
    unfold sG at h'
    rw [aG (by omega)]
    exact ⟨h,rfl⟩
   ·right
    have h' := h
    unfold sG at h'
    rw [aw (by omega)]
    exact ⟨h,rfl⟩)
  (fun _=>by unfold gF; dsimp only; rw [aG (by omega)]; rfl) with ⟨hO,he⟩ | ⟨i,hi,_,hP,he⟩
 rotate_left
 ·rw [he]
  exact ⟨false,rfl,fun h=>(by cases h),fun h=>absurd (h.2.1 i hi) hP⟩
 rw [he]
 simp only [f7,ZJ]
 obtain ⟨z,z1,z2⟩:=fw (f:=j5 c s) (fun y=>s.1.length - y.2.toNat) (fun y=>∃ k:Nat,y=(dD s k,(k:Int))∧k≤s.1.length∧∀ j,j<k→nB c s j=true)
  (fun r=>(r = .inl (dD s s.1.length)∧∀ j,j<s.1.length→nB c s j=true)∨(r = .inr false∧∃ j,j<s.1.length∧¬ nB c s j=true))
  (fun y hy=>by
   obtain ⟨k,rfl,hk,hj⟩:=hy
   unfold j5
   rcases WG k s.1.length with hlt | hge
   ·simp only [aw (show (k:Int)<(s.1.length:Int) by omega),f9,bC (fJ hlt),f7,ZJ,adn hc hs hlt,aW (n:=s.1.length) (by omega) hlt]
    cases hb:nB c s k
    ·left
     exact ⟨_,rfl, .inr ⟨rfl,k,hlt,by rw [hb]; simp⟩⟩
    ·right
     have hl:=A8 s k
     have hj' : ∀ j,j<k+1→nB c s j=true:=fun j hjk=>by
      rcases WG j k with h | h
      ·exact hj j h
      ·rw [show j=k by omega]; exact hb
     refine ⟨(dD s (k+1),((k+1:Nat):Int)),?_,⟨k+1,rfl,by omega,hj'⟩,by dsimp only; omega⟩
     rw [show dD s (k+1)=if (bL s k).2.2.2=true then dD s k else dD s k+1 from rfl]
     cases (bL s k).2.2.2
     ·simp only [Wn,WM,f9,no,f7,ZJ,XV,WE,aZ (x:=dD s k+1) (by omega) (by omega)]
      rfl
     ·simp only [WM,no,f7,ZJ,We]
      rfl
   ·left
    have:k=s.1.length:=by omega
    subst this
    simp only [aG (show ¬ (s.1.length:Int)<(s.1.length:Int) by omega),no]
    exact ⟨_,rfl, .inl ⟨rfl,hj⟩⟩) (s:=(0,0)) ⟨0,rfl,by omega,fun j hj=>absurd hj (by omega)⟩ (by show s.1.length - (0:Int).toNat<_; omega)
 rw [z1]
 rcases z2 with ⟨rfl,hS⟩ | ⟨rfl,j,hj,hP⟩
 ·simp only [f7,ZJ]
  exact ⟨_,rfl,fun h=>⟨h1,hO,hS,by simpa using h⟩,fun h=>by simpa using h.2.2.2⟩
 ·exact ⟨false,rfl,fun h=>(by cases h),fun h=>absurd (h.2.2.1 j hj) hP⟩
def R2 (s:aO):Prop:=(0≤s.2.2.2.2.2.1∧s.2.2.2.2.2.1≤1048576)∧(0≤s.2.2.2.2.2.2.1∧s.2.2.2.2.2.2.1≤64)∧0≤s.2.2.2.2.2.2.2.1.1∧0≤s.2.2.2.2.2.2.2.1.2.1∧0≤s.2.2.2.2.2.2.2.1.2.2∧0≤s.2.2.2.2.2.2.2.2.2.2.1
theorem M1 (a b c d:Int):wz a b c d<0↔a<0∨b<0∨c<0∨d<0:=by
 unfold wz
 dsimp only
 split <;> split <;> split <;> omega
theorem LD (hc:bj c)  (hs:StOk c s) (hsm:cT s) (ho : -1≤cD s∧cD s≤4) :
  ∃ v,pn c s=some v∧lB c s=some v∧(v=0→tq c s∧(cD s<0→0<(fO c s).length∧(s.2.2.2.2.2.2.2.2.1 = -1∨s.2.2.2.2.2.2.2.2.1∈fO c s))):=by
 obtain ⟨j,k,err,v1,v2,v3⟩:=Bs c hc.2.2.2
 have herr:err=0:=by
  rcases v3 with ⟨h,_⟩ | ⟨_,h,_⟩ | ⟨_,_,h,_⟩ | ⟨_,_,_,h⟩
  ·have:=hc.1; omega
  ·exact absurd hc.2.1 h
  ·exact absurd hc.2.2.1 h
  ·exact h
 subst herr
 unfold pn lB
 dsimp only
 rw [v1,v2]
 obtain ⟨b1,p1,p2⟩:=YJ hc (0,0,0) [] hs hsm
 obtain ⟨b2,r1,r2⟩:=Zh hc hs hsm
 have hb:b1=b2:=by rw [ajz]; exact p2.trans r2.symm
 subst hb
 simp only [f7,ZJ,Yy,no,rj s hsm,p1,r1]
 cases b1
 ·exact ⟨1,rfl,rfl,fun h=>(by cases h)⟩
 have hsh:=p2.1 rfl
 unfold cD at ho
 have ew:ad (s.2.2.2.2.2.2.2.2.2.1+1)=s.2.2.2.2.2.2.2.2.2.1+1:=aZ (by omega) (by omega)
 simp only [WM,Wn,f9,no,lD,kT,mU,f7,ZJ,ew]
 by_cases hg:R2 s
 rotate_left
 ·refine ⟨1,?_,?_,fun h=>(by cases h)⟩
  ·unfold R2 at hg
   by_cases c1:0≤s.2.2.2.2.2.1∧s.2.2.2.2.2.1≤1048576
   ·rw [aw c1]
    simp only [WM,Wn,f9,no,f7,ZJ]
    by_cases c2:0≤s.2.2.2.2.2.2.1∧s.2.2.2.2.2.2.1≤64
    ·rw [aw c2]
     simp only [WM,Wn,f9,no,f7,ZJ]
     rw [aw ((M1 _ _ _ _).2 (by omega))]
     rfl
    ·rw [aG c2]
     rfl
   ·rw [aG c1]
    rfl
  ·unfold R2 at hg
   by_cases c1:((s.2.2.2.2.2.1<0∨1048576<s.2.2.2.2.2.1)∨s.2.2.2.2.2.2.1<0)∨64<s.2.2.2.2.2.2.1
   ·rw [aw c1]
    rfl
   ·rw [aG c1,aw (by omega)]
    rfl
 obtain ⟨g1,g2,g3,g4,g5,g6⟩:=hg
 rw [aw g1,aw g2,aG (show ¬ wz s.2.2.2.2.2.2.2.1.1 s.2.2.2.2.2.2.2.1.2.1 s.2.2.2.2.2.2.2.1.2.2 s.2.2.2.2.2.2.2.2.2.2.1<0 by rw [M1]; omega),aw (show 0≤s.2.2.2.2.2.2.2.2.2.1+1∧s.2.2.2.2.2.2.2.2.2.1+1≤5 by omega)]
 rw [aG (show ¬ (((s.2.2.2.2.2.1<0∨1048576<s.2.2.2.2.2.1)∨s.2.2.2.2.2.2.1<0)∨64<s.2.2.2.2.2.2.1) by omega),aG (show ¬ (((((s.2.2.2.2.2.2.2.1.1<0∨s.2.2.2.2.2.2.2.1.2.1<0)∨s.2.2.2.2.2.2.2.1.2.2<0)∨s.2.2.2.2.2.2.2.2.2.2.1<0)∨s.2.2.2.2.2.2.2.2.2.1 < -1)∨4<s.2.2.2.2.2.2.2.2.2.1) by omega)]
 simp only [WM,Wn,f9,no,f7,ZJ]
 by_cases hz:0≤s.2.2.2.2.2.2.2.2.2.1
 ·rw [aw hz]
  simp only [f9]
  cases s.2.2.2.2.2.2.2.2.1 != -1
  ·exact ⟨0,rfl,rfl,fun _=>⟨hsh,fun h=>absurd hz (by unfold cD at h; omega)⟩⟩
  ·exact ⟨1,rfl,rfl,fun h=>(by cases h)⟩
 rw [aG hz]
 have hel:(fO c s).length≤1048576:=aeM (nY _ _) hs.n
 simp only [no,uA hc hs,FJ hc hs,f7,ZJ]
 have h0:ac s.1 0=some (bL s 0):=bC (fJ hsh.1.1)
 cases hq:(bif bif !(s.2.2.2.2.2.2.2.2.2.2.2==([]:List UInt8)) then true else s.2.2.2.2.2.2.2.2.2.2.1 != (0:Int) then true else s.2.2.2.2.2.2.1==(0:Int))
 rotate_left
 ·exact ⟨1,rfl,rfl,fun h=>(by cases h)⟩
 simp only [Wn,f9,no,h0,f7,ZJ]
 cases (bL s 0).2.2.2
 rotate_left
 ·exact ⟨1,rfl,rfl,fun h=>(by cases h)⟩
 simp only [no]
 by_cases hl:0<(fO c s).length
 rotate_left
 ·rw [bt (show ((fO c s).length:Int)=0 by omega)]
  exact ⟨1,rfl,rfl,fun h=>(by cases h)⟩
 rw [bf (show ¬ ((fO c s).length:Int)=0 by omega)]
 simp only [Wn,afa,no]
 by_cases hp:s.2.2.2.2.2.2.2.2.1 = -1
 ·rw [nf hp]
  exact ⟨0,rfl,rfl,fun _=>⟨hsh,fun _=>⟨hl, .inl hp⟩⟩⟩
 ·rw [nt hp]
  simp only [f9,P8 _ hel,ajW _ hel,f7,ZJ]
  by_cases hm:s.2.2.2.2.2.2.2.2.1∈fO c s
  ·rw [aw hm]
   exact ⟨0,rfl,rfl,fun _=>⟨hsh,fun _=>⟨hl, .inr hm⟩⟩⟩
  ·rw [aG hm]
   exact ⟨1,rfl,rfl,fun h=>(by cases h)⟩
abbrev Tf:Type:=Int×Int×Int×List Int
def lG (c:CC) (e:bI) (s:aO) (k:Nat):Tf:=
 let x:=eA c (bL s k)
 let pc:=(tC (bL s k)).1
 if x.1=23 then (1,(k:Int),pc,List.replicate x.2.1.toNat 1)
 else if x.1=19∧(c.2.2.2.2.1.getD x.2.1.toNat ([],0)).2=0∧1<(dY c s x.2.1).length then (2,(k:Int),pc,List.replicate (dY c s x.2.1).length 1)
 else if x.1=24∧0<e.2.2 then (3,(k:Int),pc,[ad (16 - e.2.2),e.2.2])
 else if x.1=26∧0<e.2.1 then (4,(k:Int),pc,[ad (16 - e.2.1),e.2.1])
 else (0,(k:Int),pc,[1])
def vr (c:CC) (s:aO):Int:=if s.2.2.2.2.2.2.2.2.1<0 then (fO c s).getD 0 0 else s.2.2.2.2.2.2.2.2.1
def nu (c:CC) (e:bI) (s:aO):Tf:=
 if s.2.2.2.2.2.2.2.2.1<0∧1<(fO c s).length then (0,-1,-1,List.replicate (fO c s).length 1) else lG c e s (vr c s).toNat
theorem I2 {n:Nat} {p:Nat→Bool} {x:Int}:x∈qI n p↔∃ k,k<n∧p k=true∧x=(k:Int):=by
 unfold qI
 simp only [VO,Yc,Y0]
 constructor
 ·rintro ⟨k,⟨h1,h2⟩,rfl⟩
  exact ⟨k,h1,h2,rfl⟩
 ·rintro ⟨k,h1,h2,rfl⟩
  exact ⟨k,⟨h1,h2⟩,rfl⟩
structure GoOn (c:CC) (s:aO):Prop where
 ok:StOk c s
 n:s.1.length≤65
 en:0<(fO c s).length
 pk:s.2.2.2.2.2.2.2.2.1 = -1∨s.2.2.2.2.2.2.2.2.1∈fO c s
theorem B6 (h:GoOn c s) : ∃ k:Nat,vr c s=(k:Int)∧k<s.1.length∧vZ c s k=true:=by
 have hm:vr c s∈fO c s:=by
  unfold vr
  split
  ·exact de 0 h.en
  ·rcases h.pk with hp | hp
   ·omega
   ·exact hp
 obtain ⟨k,h1,h2,h3⟩:=I2.1 hm
 exact ⟨k,h3,h1,h2⟩
theorem Bp (hs:StOk c s)  (hk:k<s.1.length) (h:vZ c s k=true) : ∃ fs f st w,bL s k=(fs++[f],st,w,false)∧Run1 c fs f st:=by
 rcases jJ hs hk with ⟨h1,h2⟩ | ⟨h1,h2⟩
 ·unfold vZ at h
  dsimp only at h
  rw [if_pos h1] at h
  cases h
 ·exact h2
theorem DD {f:DW→Option (DW⊕Tf)} (n:Nat) (hn:n≤1000) (a b d:Int) (hstep : ∀ i,i<n→∀ l:List Int,aJ l.length 1 8=true→f ((i:Int),a,b,d,l)=some (.inl ((i:Int)+1,a,b,d,l++[1]))) (hend : ∀ l,f ((n:Int),a,b,d,l)=some (.inr (a,b,d,l))) :
  Itr.it f (0,a,b,d,[])=some (a,b,d,List.replicate n 1):=
 c9 (f:=f) (fun y=>n - y.1.toNat) (fun _=>(a,b,d,List.replicate n 1)) (fun y=>∃ i:Nat,y=((i:Int),a,b,d,List.replicate i 1)∧i≤n)
  (fun y hy=>by
   obtain ⟨i,rfl,hi⟩:=hy
   rcases WG i n with hlt | hge
   ·right
    refine ⟨(((i+1:Nat):Int),a,b,d,List.replicate (i+1) 1),?_,⟨i+1,rfl,by omega⟩,by dsimp only; omega,rfl⟩
    rw [hstep i hlt _ (aY (by simp only [Zi]; omega) (by omega)),aeg]
    rfl
   ·left
    have:i=n:=by omega
    subst this
    exact hend _) (s:=(0,a,b,d,[])) ⟨0,rfl,by omega⟩ (by show n - (0:Int).toNat<_; omega)
theorem Zj (hc:bj c) (e:bI)  (acc:List ((Int×Int×Bool)×Bool)) (hs:StOk c s) (hn:s.1.length≤65)  (hk:k<s.1.length)     (ht:bL s k=(fs++[f],st,w,false)) (hr:Run1 c fs f st) :
  ka (c,e,s,acc) (k:Int) f [1]=some (lG c e s k):=by
 unfold ka lG
 have hat:oy (c,e,s,acc) (k:Int)=some (eA c (bL s k)):=by
  have h:=GY (e:=e) (acc:=acc) hs hk []
  unfold kG at h
  rw [if_neg (by rw [ht]; simp)] at h
  exact h
 obtain ⟨p,hpn,hO,hx⟩:=xQ hc hs hk (by rw [ht])
 rw [hx] at hO
 have hpc:(tC (bL s k)).1=f.1:=by rw [ht,ef]
 dsimp only
 rw [hat,hpc]
 generalize eA c (bL s k)=x at *
 obtain ⟨op,u,b⟩:=x
 obtain ⟨o1,o2,o3,o4,o5,o6,o7,o8,o9,o10,o11,o12⟩:=hO
 dsimp only at o1 o2 o3 o4 o5 o6 o7 o8 o9 o10 o11 o12 ⊢
 simp only [f7,ZJ]
 by_cases h23:op=23
 ·obtain ⟨g1,g2⟩:=o9 h23
  rw [bt h23,if_pos h23]
  obtain ⟨n,rfl⟩ : ∃ n:Nat,u=(n:Int):=⟨u.toNat,by omega⟩
  simp only [f9,zi (show n<70 by omega),f7,ZJ,VY]
 rw [bf h23,if_neg h23]
 simp only [no]
 by_cases h19:op=19
 ·obtain ⟨g1,g2⟩:=o7 (.inl h19)
  have ec:ac c.2.2.2.2.1 u=some (c.2.2.2.2.1.getD u.toNat ([],0)):=aT _ g1 (by omega)
  have hl:(dY c s u).length≤s.1.length:=nY _ _
  rw [bt h19]
  simp only [f9,ec,f7,ZJ]
  by_cases hz:(c.2.2.2.2.1.getD u.toNat ([],0)).2=0
  ·rw [bt hz]
   simp only [f9,Jd hs,f7,ZJ]
   by_cases h1:1<(dY c s u).length
   ·rw [aw (by omega),if_pos ⟨h19,hz,h1⟩]
    simp only [f9,zi (show (dY c s u).length<70 by omega),f7,ZJ]
   ·rw [aG (by omega),if_neg (fun h=>h1 h.2.2),if_neg (by omega),if_neg (by omega)]
    rfl
  ·rw [bf hz,if_neg (fun h=>hz h.2.1),if_neg (by omega),if_neg (by omega),bf (show ¬ op=24 by omega),bf (show ¬ op=26 by omega)]
   rfl
 rw [bf h19,if_neg (fun h=>h19 h.1)]
 simp only [no,f7,ZJ,pm,kT]
 by_cases h24:op=24∧0<e.2.2
 ·rw [aw h24,if_pos h24]
  rfl
 rw [aG h24,if_neg h24]
 simp only [no]
 by_cases h26:op=26∧0<e.2.1
 ·rw [aw h26,if_pos h26]
  rfl
 rw [aG h26,if_neg h26]
 rfl
theorem zy (hc:bj c) (e:bI)  (acc:List ((Int×Int×Bool)×Bool)) (h:GoOn c s):ii (c,e,s,acc)=some (nu c e s):=by
 unfold ii nu
 have hl:(fO c s).length≤s.1.length:=nY _ _
 have hn:=h.n
 obtain ⟨k,w1,w2,w3⟩:=B6 h
 obtain ⟨fs,f,st,w,ht,hr⟩:=Bp h.ok w2 w3
 have et:ac s.1 (k:Int)=some (fs++[f],st,w,false):=by rw [← ht]; exact bC (fJ w2)
 have el:=mP fs f (by have:=hr.n; omega)
 have h1:gT 1=some [1]:=zi (n:=1) (by omega)
 dsimp only
 simp only [uA hc h.ok,f7,ZJ]
 have rest:((ac s.1 (k:Int)).bind fun _=>(ac s.1 (k:Int)).bind fun v7=>(ac s.1 (k:Int)).bind fun v8=>(ac v7.1 (ad ((v8.1.length:Int) - (1:Int)))).bind fun _=>(ac v7.1 (ad ((v8.1.length:Int) - (1:Int)))).bind fun v10=>(gT 1).bind fun r11=>((ka (c,e,s,acc) (k:Int) v10 r11:Option bT)).bind fun s12=>some s12)=some (lG c e s k):=by
  simp only [et,f7,ZJ,el,h1,Zj hc e acc h.ok h.n w2 ht hr]
 by_cases hp:s.2.2.2.2.2.2.2.2.1<0
 ·by_cases h2:1<(fO c s).length
  ·rw [aw hp,if_pos ⟨hp,h2⟩,aw (by omega)]
   simp only [f9,zi (show (fO c s).length<70 by omega),f7,ZJ]
  ·rw [aw hp,if_neg (fun h=>h2 h.2),aG (by omega)]
   have e0:ac (fO c s) 0=some (k:Int):=by
    have:vr c s=(fO c s).getD 0 0:=by unfold vr; rw [if_pos hp]
    rw [← w1,this]
    exact aB 0 h.en
   simp only [f9,no,e0,f7,ZJ]
   rw [w1]
   exact rest
 ·rw [aG hp,if_neg (fun h=>hp h.1)]
  have:s.2.2.2.2.2.2.2.2.1=(k:Int):=by rw [← w1]; unfold vr; rw [if_neg hp]
  simp only [no,f7,ZJ]
  rw [w1,this]
  exact rest
theorem V3 (hc:bj c) (e:bI)  (a:List bR) (hs:StOk c s) (hn:s.1.length≤65)  (hk:k<s.1.length)     (ht:bL s k=(fs++[f],st,w,false)) (hr:Run1 c fs f st) :
  gD (eA c (bL s k)) (k:Int) f (c,e,s,a)=some (lG c e s k):=by
 unfold gD lG
 obtain ⟨p,hpn,hO,hx⟩:=xQ hc hs hk (by rw [ht])
 rw [hx] at hO
 have hpc:(tC (bL s k)).1=f.1:=by rw [ht,ef]
 dsimp only
 rw [hpc]
 generalize eA c (bL s k)=x at *
 obtain ⟨op,u,b⟩:=x
 obtain ⟨o1,o2,o3,o4,o5,o6,o7,o8,o9,o10,o11,o12⟩:=hO
 dsimp only at o1 o2 o3 o4 o5 o6 o7 o8 o9 o10 o11 o12 ⊢
 by_cases h23:op=23
 ·obtain ⟨g1,g2⟩:=o9 h23
  rw [bt h23,if_pos h23]
  obtain ⟨n,rfl⟩ : ∃ n:Nat,u=(n:Int):=⟨u.toNat,by omega⟩
  simp only [f9,VY]
  have hlp:=DD (f:=fH (op,((n:Nat):Int),b)) n (by omega) 1 (k:Int) f.1
   (fun i hi l hl=>by
    unfold fH
    simp only [aw (show (i:Int)<(n:Int) by omega),f9,af,Vp,hl,aW (n:=n) (by omega) hi])
   (fun l=>by unfold fH; simp only [aG (show ¬ (n:Int)<(n:Int) by omega),no])
  rw [hlp]
 rw [bf h23,if_neg h23]
 simp only [no]
 by_cases h19:op=19
 ·obtain ⟨g1,g2⟩:=o7 (.inl h19)
  have ec:ac c.2.2.2.2.1 u=some (c.2.2.2.2.1.getD u.toNat ([],0)):=aT _ g1 (by omega)
  have hl:(dY c s u).length≤s.1.length:=nY _ _
  rw [bt h19]
  simp only [f9,ec,f7,ZJ,H6 hs,pm,kT]
  by_cases h1:(c.2.2.2.2.1.getD u.toNat ([],0)).2=0∧1<(dY c s u).length
  ·rw [aw (show (c.2.2.2.2.1.getD u.toNat ([],0)).2=0∧(1:Int)<((dY c s u).length:Int) by omega),if_pos ⟨h19,h1.1,h1.2⟩]
   simp only [f9]
   have hlp:=DD (f:=fE (dY c s u)) (dY c s u).length (by omega) 2 (k:Int) f.1
    (fun i hi l hl=>by
     unfold fE
     simp only [aw (show (i:Int)<((dY c s u).length:Int) by omega),f9,af,Vp,hl,aW (n:=(dY c s u).length) (by omega) hi])
    (fun l=>by unfold fE; simp only [aG (show ¬ ((dY c s u).length:Int)<((dY c s u).length:Int) by omega),no])
   rw [hlp]
  ·rw [aG (show ¬ ((c.2.2.2.2.1.getD u.toNat ([],0)).2=0∧(1:Int)<((dY c s u).length:Int)) by omega),if_neg (fun h=>h1 h.2),if_neg (by omega),if_neg (by omega)]
   rfl
 rw [bf h19,if_neg (fun h=>h19 h.1)]
 simp only [no]
 by_cases h24:op=24
 ·rw [bt h24]
  simp only [f9]
  by_cases hz:0<e.2.2
  ·rw [aw hz,if_pos ⟨h24,hz⟩]
   rfl
  ·rw [aG hz,if_neg (fun h=>hz h.2),if_neg (by omega)]
   rfl
 rw [bf h24,if_neg (fun h=>h24 h.1)]
 simp only [no]
 by_cases h26:op=26
 ·rw [bt h26]
  simp only [f9]
  by_cases hz:0<e.2.1
  ·rw [aw hz,if_pos ⟨h26,hz⟩]
   rfl
  ·rw [aG hz,if_neg (fun h=>hz h.2)]
   rfl
 rw [bf h26,if_neg (fun h=>h26 h.1)]
 rfl
theorem zx (hc:bj c) (e:bI)  (a:List bR) (h:GoOn c s):eI (c,e,s,a)=some (nu c e s):=by
 unfold eI nu
 have hl:(fO c s).length≤s.1.length:=nY _ _
 have hn:=h.n
 obtain ⟨k,w1,w2,w3⟩:=B6 h
 obtain ⟨fs,f,st,w,ht,hr⟩:=Bp h.ok w2 w3
 have et:ac s.1 (k:Int)=some (fs++[f],st,w,false):=by rw [← ht]; exact bC (fJ w2)
 have el:=mP fs f (by have:=hr.n; omega)
 have hat:bU (c,e,s,a) (k:Int)=some (eA c (bL s k)):=by
  have h:=FD (e:=e) (a:=a) h.ok w2
  unfold kG at h
  rw [if_neg (by rw [ht]; simp),if_neg (by rw [ht]; simp)] at h
  exact h
 simp only [FJ hc h.ok,f7,ZJ]
 have rest:((ac s.1 (k:Int)).bind fun _=>(ac s.1 (k:Int)).bind fun v9=>(ac v9.1 (ad ((v9.1.length:Int) - (1:Int)))).bind fun _=>(ac v9.1 (ad ((v9.1.length:Int) - (1:Int)))).bind fun v11=>(bU (c,e,s,a) (k:Int)).bind fun r12=>((gD r12 (k:Int) v11 (c,e,s,a):Option bT)).bind fun s13=>some s13)=some (lG c e s k):=by
  simp only [et,f7,ZJ,el,hat,V3 hc e a h.ok h.n w2 ht hr]
 by_cases hp:s.2.2.2.2.2.2.2.2.1<0
 ·by_cases h2:1<(fO c s).length
  ·rw [aw hp,if_pos ⟨hp,h2⟩,aw (show (1:Int)<((fO c s).length:Int) by omega)]
   have hlp:=DD (f:=fI (fO c s)) (fO c s).length (by omega) 0 (-1) (-1)
    (fun i hi l hl=>by
     unfold fI
     simp only [aw (show (i:Int)<((fO c s).length:Int) by omega),f9,af,Vp,hl,aW (n:=(fO c s).length) (by omega) hi])
    (fun l=>by unfold fI; simp only [aG (show ¬ ((fO c s).length:Int)<((fO c s).length:Int) by omega),no])
   simp only [f9,hlp,f7,ZJ]
  ·rw [aw hp,if_neg (fun h=>h2 h.2),aG (show ¬ (1:Int)<((fO c s).length:Int) by omega)]
   have e0:ac (fO c s) 0=some (k:Int):=by
    have:vr c s=(fO c s).getD 0 0:=by unfold vr; rw [if_pos hp]
    rw [← w1,this]
    exact aB 0 h.en
   simp only [f9,no,e0,f7,ZJ]
   rw [w1]
   exact rest
 ·rw [aG hp,if_neg (fun h=>hp h.1)]
  have:s.2.2.2.2.2.2.2.2.1=(k:Int):=by rw [← w1]; unfold vr; rw [if_neg hp]
  simp only [no,f7,ZJ]
  rw [w1,this]
  exact rest
theorem B9 (hc:bj c) (e:bI)  (hs:StOk c s) (hsm:cT s) (ho : -1≤cD s∧cD s≤4) : ∃ v,jI c e s=some v∧fS c e s=some v∧(v=0→cD s<0∧GoOn c s∧tq c s):=by
 unfold jI fS
 obtain ⟨v,v1,v2,v3⟩:=LD hc hs hsm ho
 rw [v1,v2]
 simp only [f7,ZJ]
 by_cases hv:v=0
 rotate_left
 ·rw [nt hv]
  exact ⟨v,rfl,rfl,fun h=>absurd h hv⟩
 rw [nf hv]
 obtain ⟨b,b1,b2,b3⟩:=JE e
 simp only [no,b1,b2,f7,ZJ]
 cases b
 ·exact ⟨1,rfl,rfl,fun h=>(by cases h)⟩
 simp only [WM,no]
 by_cases hz:0≤cD s
 ·have hz' : (0:Int)≤s.2.2.2.2.2.2.2.2.2.1:=hz
  rw [aw hz']
  exact ⟨8,rfl,rfl,fun h=>(by cases h)⟩
 ·have hz' : ¬ (0:Int)≤s.2.2.2.2.2.2.2.2.2.1:=hz
  rw [aG hz']
  obtain ⟨h1,h2⟩:=v3 hv
  obtain ⟨h3,h4⟩:=h2 (by omega)
  exact ⟨0,rfl,rfl,fun _=>⟨by omega,⟨hs,h1.1.2,h3,h4⟩,h1⟩⟩
theorem SY (hc:bj c) (e:bI)  (hs:StOk c s) (hsm:cT s) (ho : -1≤cD s∧cD s≤4) : ∃ p v,ml c e s=some (p,v)∧mb c e s=some (p,v)∧p.2.2.2.length≤70:=by
 unfold ml mb
 obtain ⟨v,v1,v2,v3⟩:=B9 hc e hs hsm ho
 rw [v1,v2]
 simp only [f7,ZJ]
 by_cases hv:v=0
 rotate_left
 ·rw [nt hv]
  exact ⟨(0,0,0,[]),v,rfl,rfl,by simp⟩
 obtain ⟨h1,h2,h3⟩:=v3 hv
 rw [nf hv]
 simp only [no,rj s hsm,f7,ZJ,zy hc e [] h2,zx hc e [] h2]
 refine ⟨_,0,rfl,rfl,?_⟩
 have hn:=h2.n
 have hl:(fO c s).length≤s.1.length:=nY _ _
 unfold nu
 split
 ·simp only [Zi]; omega
 ·obtain ⟨k,w1,w2,w3⟩:=B6 h2
  obtain ⟨fs,f,st,w,ht,hr⟩:=Bp h2.ok w2 w3
  obtain ⟨p,hpn,hO,hx⟩:=xQ hc h2.ok w2 (by rw [ht])
  rw [hx] at hO
  rw [w1,VY]
  have hrl : ∀ u,(dY c s u).length≤s.1.length:=fun u=>nY _ _
  unfold lG
  dsimp only
  split
  ·rename_i h23
   obtain ⟨g1,g2⟩:=hO.2.2.2.2.2.2.2.2.1 h23
   simp only [Zi]; omega
  split
  ·simp only [Zi]
   have:=hrl (eA c (bL s k)).2.1
   omega
  split
  ·simp
  split
  ·simp
  ·simp
abbrev JR:Type:=List Int×List (List Int)×List Int×List Int×Int×Int×(Int×Int×Int)×Int×Int×Int×List UInt8
def nI (i:Nat) (f:Fr) (st:List Int) (x:bI) (k:Int) (r:JR):List bR×Bool×List Int×List Int×JR:=
 let st1:=st.take (st.length - 1)
 let v:=st.getD (st.length - 1) 0
 if x.1=16 then (if 16≤st.length then ([(0,x.2.1,false)],false,f.2,st,r) else ([(0,x.2.1,false)],true,f.2,st++[r.1.getD x.2.1.toNat 0],r))
 else if x.1=17 then (if st.length=0 then ([(0,x.2.1,true)],false,f.2,st,r) else ([(0,x.2.1,true)],true,f.2,st1,(r.1.set x.2.1.toNat v,r.2)))
 else if x.1=20 then ([(1,x.2.1,true)],true,f.2.set x.2.2.toNat ((r.2.1.getD x.2.1.toNat []).getD 0 0),st,(r.1,r.2.1.set x.2.1.toNat ((r.2.1.getD x.2.1.toNat []).drop 1),r.2.2))
 else if x.1=21 then ([(2,x.2.1,true)],true,f.2,st,(r.1,r.2.1,r.2.2.1.set x.2.1.toNat (i:Int),r.2.2.2))
 else if x.1=22 then ([(2,x.2.1,true)],r.2.2.1.getD x.2.1.toNat 0==(i:Int),f.2,st,(r.1,r.2.1,r.2.2.1.set x.2.1.toNat (-1),r.2.2.2))
 else if x.1=23 then ([],true,f.2.set x.2.2.toNat k,st,r)
 else if x.1=24 then ([(4,0,k==1)],true,f.2.set x.2.1.toNat (ad (r.2.2.2.2.1+k)),st,(r.1,r.2.1,r.2.2.1,r.2.2.2.1,ad (r.2.2.2.2.1+k),r.2.2.2.2.2))
 else if x.1=25 then ([(4,0,false)],true,f.2,st,r)
 else if x.1=26 then (if st.length=0 then ([(3,x.2.1,true)],false,f.2,st,r) else if k=0 then ([(3,x.2.1,true)],true,f.2,st1,(r.1,r.2.1,r.2.2.1,r.2.2.2.1.set x.2.1.toNat v,r.2.2.2.2)) else ([(3,x.2.1,true)],true,f.2,st1,r))
 else ([(3,x.2.1,false)],true,f.2.set x.2.2.toNat (r.2.2.2.1.getD x.2.1.toNat 0),st,r)
def qk (s:aO) (i:Nat) (fs:List Fr) (f:Fr) (st:List Int) (w:Int) (x:bI) (k:Int):aO:=
 let q:=nI i f st x k s.2
 (s.1.set i (fs++[(f.1,q.2.2.1)],q.2.2.2.1,w,false),q.2.2.2.2)
theorem vW {t:Th} (h:s.1[i]? = some t):(s.1.set i t,s.2)=s:=by rw [gn h]
def jx (op:Int):Prop:=op=16∨op=17∨op=20∨op=21∨op=22∨op=23∨op=24∨op=25∨op=26∨op=27
theorem aiN (hc:bj c)           (h:AtP c s i fs f st w x k pc) (hf:Fit1 c s) (hop:jx x.1) (hq:x.1=20→0<(s.2.2.1.getD x.2.1.toNat []).length) (j:Int) :
  cZ x (c,e,s,acc) (i:Int) j=some (.inl ((nI i f st x j s.2).2.1,(fl 0 (c,e,qk s i fs f st w x j,(nI i f st x j s.2).1.foldl cv acc)).2)):=by
 obtain ⟨ht,hn,hm,hpc1,hpc2,hpr,hlo,hx⟩:=h
 have hF:=hc.2.2.1 k pc hpc2 hpr
 rw [hx] at hF
 obtain ⟨⟨h0,_⟩,_,hO⟩:=hF
 have et:=bC ht
 have efr : ∀ g:Fr,ac (fs++[g]) (fs.length:Int)=some g:=fun g=>by simp [ac]
 have esa:=gn ht
 have ela : ∀ g:Fr,((fs++[g]).length:Int)=(fs.length:Int)+1:=fun g=>by simp
 have ewl:ad ((fs.length:Int)+1 - 1)=(fs.length:Int):=by rw [aZ (by omega) (by omega)]; omega
 have edl:decide (0≤(fs.length:Int)∧(fs.length:Int)<(fs.length:Int)+1 - 0)=true:=aw (by omega)
 obtain ⟨op,a,b⟩:=x
 obtain ⟨fv,fq,fo,ff⟩:=hf
 unfold cZ qk nI
 have ew1:ad ((st.length:Int) - 1)=(st.length:Int) - 1:=aZ (by omega) (by omega)
 have eto1:((st.length:Int) - 1).toNat=st.length - 1:=by omega
 have po : ¬ st.length=0→ac st ((st.length:Int) - 1)=some (st.getD (st.length - 1) 0):=fun hv=>by rw [aT 0 (by omega) (by omega),eto1]
 have pu : ∀ v:Int,aJ st.length ([v]:List Int).length 8=true:=fun v=>aY (by simp only [Vp]; omega) (by omega)
 obtain ⟨o1,o2,o3,o4,o5,o6,o7,o8,o9,o10,o11,o12⟩:=hO
 dsimp only at hop h0 o1 o2 o3 o4 o5 o6 o7 o8 o9 o10 o11 o12 hq ⊢
 rcases hop with h | h | h | h | h | h | h | h | h | h
 ·subst h
  obtain ⟨g1,g2⟩:=o6 (.inl rfl)
  have ei:ac s.2.1 a=some (s.2.1.getD a.toNat 0):=aT 0 g1 (by omega)
  simp only [et,ei,f7,ZJ,V9,af,f9,Int.reduceBEq,no,We,VY,pu,esa]
  by_cases hv:16≤st.length
  ·rw [aw (show (16:Int)≤(st.length:Int) by omega),if_pos hv,vW ht]
   rfl
  ·rw [aG (show ¬ (16:Int)≤(st.length:Int) by omega),if_neg hv]
   rfl
 ·subst h
  obtain ⟨g1,g2⟩:=o6 (.inr rfl)
  have ei:ac s.2.1 a=some (s.2.1.getD a.toNat 0):=aT 0 g1 (by omega)
  simp only [et,ei,f7,ZJ,V9,af,f9,Int.reduceBEq,no,We,WE,Int.reduceEq,VY,esa,ew1]
  by_cases hv:st.length=0
  ·rw [aw (show (st.length:Int) - 1<0 by omega),if_pos hv,vW ht]
   rfl
  ·rw [aG (show ¬ (st.length:Int) - 1<0 by omega),if_neg hv,aw (show 0≤(st.length:Int) - 1∧(st.length:Int) - 1≤st.length by omega)]
   simp only [no,f9,po hv,f7,ZJ,eto1]
   rfl
 ·subst h
  obtain ⟨g1,g2⟩:=o7 (.inr rfl)
  obtain ⟨g3,g4⟩:=o12 (.inl rfl)
  have hq:=hq rfl
  have ei:ac s.2.2.1 a=some (s.2.2.1.getD a.toNat []):=aT [] g1 (by omega)
  have ej:ac f.2 b=some (f.2.getD b.toNat 0):=aT 0 g3 (by omega)
  have ek:ac (s.2.2.1.getD a.toNat []) 0=some ((s.2.2.1.getD a.toNat []).getD 0 0):=aT (k:=0) 0 (by omega) (by omega)
  simp only [et,ei,ej,ek,efr,ela,ewl,edl,f7,ZJ,V9,af,f9,Int.reduceBEq,no,We,WE,Int.reduceEq,VY,cN,YS]
  rw [aw (show 0≤a∧a<(s.2.2.1.length:Int) - 0 by omega),aw (show (0:Int)≤1∧(1:Int)≤((s.2.2.1.getD a.toNat []).length:Int)∧((s.2.2.1.getD a.toNat []).length:Int)≤((s.2.2.1.getD a.toNat []).length:Int) by omega),adT]
  rfl
 ·subst h
  obtain ⟨g1,g2⟩:=o8 (.inl rfl)
  have ei:ac s.2.2.2.1 a=some (s.2.2.2.1.getD a.toNat 0):=aT 0 g1 (by omega)
  simp only [ei,f7,ZJ,af,f9,Int.reduceBEq,no,We,WE,Int.reduceEq,esa]
  rfl
 ·subst h
  obtain ⟨g1,g2⟩:=o8 (.inr rfl)
  have ei:ac s.2.2.2.1 a=some (s.2.2.2.1.getD a.toNat 0):=aT 0 g1 (by omega)
  simp only [ei,f7,ZJ,af,f9,Int.reduceBEq,no,We,WE,Int.reduceEq,esa]
  rfl
 ·subst h
  obtain ⟨g3,g4⟩:=o12 (.inr (.inl rfl))
  have ej:ac f.2 b=some (f.2.getD b.toNat 0):=aT 0 g3 (by omega)
  simp only [et,ej,efr,ela,ewl,edl,f7,ZJ,V9,af,f9,Int.reduceBEq,no,We,WE,Int.reduceEq,VY,cN,YS]
  rfl
 ·subst h
  obtain ⟨g3,g4⟩:=o1 (.inr (.inr rfl))
  have ej:ac f.2 a=some (f.2.getD a.toNat 0):=aT 0 g3 (by omega)
  simp only [et,ej,efr,ela,ewl,edl,f7,ZJ,V9,af,f9,Int.reduceBEq,no,We,WE,Int.reduceEq,VY,cN,YS]
  rfl
 ·subst h
  simp only [f7,ZJ,af,f9,Int.reduceBEq,no,We,WE,Int.reduceEq,esa]
  rfl
 ·subst h
  obtain ⟨g1,g2⟩:=o11 (.inl rfl)
  have ei:ac s.2.2.2.2.1 a=some (s.2.2.2.2.1.getD a.toNat 0):=aT 0 g1 (by omega)
  simp only [et,ei,f7,ZJ,V9,af,f9,Int.reduceBEq,no,We,WE,Int.reduceEq,VY,esa,ew1]
  by_cases hv:st.length=0
  ·rw [aw (show (st.length:Int) - 1<0 by omega),if_pos hv,vW ht]
   rfl
  ·rw [aG (show ¬ (st.length:Int) - 1<0 by omega),if_neg hv,aw (show 0≤(st.length:Int) - 1∧(st.length:Int) - 1≤st.length by omega)]
   simp only [no,f9,po hv,f7,ZJ,eto1]
   by_cases hj:j=0
   ·rw [bt hj,if_pos hj]
    rfl
   ·rw [bf hj,if_neg hj]
    rfl
 ·subst h
  obtain ⟨g1,g2⟩:=o11 (.inr rfl)
  obtain ⟨g3,g4⟩:=o12 (.inr (.inr rfl))
  have ei:ac s.2.2.2.2.1 a=some (s.2.2.2.2.1.getD a.toNat 0):=aT 0 g1 (by omega)
  have ej:ac f.2 b=some (f.2.getD b.toNat 0):=aT 0 g3 (by omega)
  simp only [et,ei,ej,efr,ela,ewl,edl,f7,ZJ,V9,af,f9,Int.reduceBEq,no,We,WE,Int.reduceEq,VY,cN,YS]
  rfl
theorem ajp (hc:bj c)           (h:AtP c s i fs f st w x k pc) (hf:Fit1 c s) (hop:jx x.1) (hq:x.1=20→0<(s.2.2.1.getD x.2.1.toNat []).length) (hl : ∀ l∈s.2.2.1,l.length≤1048576) (j:Int) :
  cr x (c,e,s,sd) (i:Int) j=some (.inl ((nI i f st x j s.2).1,(nI i f st x j s.2).2.1,(gw 0 (c,e,qk s i fs f st w x j,sd)).2)):=by
 obtain ⟨ht,hn,hm,hpc1,hpc2,hpr,hlo,hx⟩:=h
 have hF:=hc.2.2.1 k pc hpc2 hpr
 rw [hx] at hF
 obtain ⟨⟨h0,_⟩,_,hO⟩:=hF
 have et:=bC ht
 have efr : ∀ g:Fr,ac (fs++[g]) (fs.length:Int)=some g:=fun g=>by simp [ac]
 have esa:=gn ht
 have ela : ∀ g:Fr,((fs++[g]).length:Int)=(fs.length:Int)+1:=fun g=>by simp
 have ewl:ad ((fs.length:Int)+1 - 1)=(fs.length:Int):=by rw [aZ (by omega) (by omega)]; omega
 have edl:decide (0≤(fs.length:Int)∧(fs.length:Int)<(fs.length:Int)+1 - 0)=true:=aw (by omega)
 have epop:=wu (c:=c) (e:=e) (a:=sd) ht (by omega)
 obtain ⟨op,a,b⟩:=x
 obtain ⟨fv,fq,fo,ff⟩:=hf
 unfold cr qk nI
 obtain ⟨o1,o2,o3,o4,o5,o6,o7,o8,o9,o10,o11,o12⟩:=hO
 dsimp only at hop h0 o1 o2 o3 o4 o5 o6 o7 o8 o9 o10 o11 o12 hq ⊢
 rcases hop with h | h | h | h | h | h | h | h | h | h
 ·subst h
  obtain ⟨g1,g2⟩:=o6 (.inl rfl)
  have ei:ac s.2.1 a=some (s.2.1.getD a.toNat 0):=aT 0 g1 (by omega)
  simp only [ei,f7,ZJ,f9,Int.reduceBEq,no,We,xZ ht]
  by_cases hv:16≤st.length
  ·rw [if_pos hv,if_pos hv,vW ht]
   rfl
  ·rw [if_neg hv,if_neg hv]
   rfl
 ·subst h
  obtain ⟨g1,g2⟩:=o6 (.inr rfl)
  have ei:ac s.2.1 a=some (s.2.1.getD a.toNat 0):=aT 0 g1 (by omega)
  simp only [epop,f7,ZJ,f9,Int.reduceBEq,no,We,WE,Int.reduceEq]
  by_cases hv:st.length=0
  ·rw [if_pos hv,if_pos hv,vW ht]
   rfl
  ·rw [if_neg hv,if_neg hv]
   have ei' : ac (bV s i (fs++[f],st.take (st.length - 1),w,false)).2.1 a=some (s.2.1.getD a.toNat 0):=ei
   simp only [f9,ei',f7,ZJ]
   rfl
 ·subst h
  obtain ⟨g1,g2⟩:=o7 (.inr rfl)
  obtain ⟨g3,g4⟩:=o12 (.inl rfl)
  have hq:=hq rfl
  have ei:ac s.2.2.1 a=some (s.2.2.1.getD a.toNat []):=aT [] g1 (by omega)
  have ej:ac f.2 b=some (f.2.getD b.toNat 0):=aT 0 g3 (by omega)
  have ek:ac (s.2.2.1.getD a.toNat []) 0=some ((s.2.2.1.getD a.toNat []).getD 0 0):=aT (k:=0) 0 (by omega) (by omega)
  have hlen:(s.2.2.1.getD a.toNat []).length≤1048576:=hl _ (de [] (by omega))
  simp only [et,ei,ej,ek,efr,ela,ewl,edl,jE ht,f7,ZJ,V9,af,f9,Int.reduceBEq,no,We,WE,Int.reduceEq,VY,cN,YS]
  rw [aw (show 0≤a∧a<(s.2.2.1.length:Int) - 0 by omega),aw (show (0:Int)≤1∧(1:Int)≤((s.2.2.1.getD a.toNat []).length:Int)∧((s.2.2.1.getD a.toNat []).length:Int)≤((s.2.2.1.getD a.toNat []).length:Int) by omega),adT,
   aY (by simp only [List.length_nil,XZ]; omega) (by omega)]
  rfl
 ·subst h
  obtain ⟨g1,g2⟩:=o8 (.inl rfl)
  have ei:ac s.2.2.2.1 a=some (s.2.2.2.1.getD a.toNat 0):=aT 0 g1 (by omega)
  simp only [ei,f7,ZJ,f9,Int.reduceBEq,no,We,WE,Int.reduceEq,esa]
  rfl
 ·subst h
  obtain ⟨g1,g2⟩:=o8 (.inr rfl)
  have ei:ac s.2.2.2.1 a=some (s.2.2.2.1.getD a.toNat 0):=aT 0 g1 (by omega)
  simp only [ei,f7,ZJ,f9,Int.reduceBEq,no,We,WE,Int.reduceEq,esa]
  rfl
 ·subst h
  obtain ⟨g3,g4⟩:=o12 (.inr (.inl rfl))
  have ej:ac f.2 b=some (f.2.getD b.toNat 0):=aT 0 g3 (by omega)
  simp only [et,ej,efr,ela,ewl,edl,jE ht,f7,ZJ,V9,af,f9,Int.reduceBEq,no,We,WE,Int.reduceEq,VY,cN,YS]
  rfl
 ·subst h
  obtain ⟨g3,g4⟩:=o1 (.inr (.inr rfl))
  have ej:ac f.2 a=some (f.2.getD a.toNat 0):=aT 0 g3 (by omega)
  simp only [et,ej,efr,ela,ewl,edl,jE ht,f7,ZJ,V9,af,f9,Int.reduceBEq,no,We,WE,Int.reduceEq,VY,cN,YS]
  rfl
 ·subst h
  simp only [f7,ZJ,f9,Int.reduceBEq,no,We,WE,Int.reduceEq,esa]
  rfl
 ·subst h
  obtain ⟨g1,g2⟩:=o11 (.inl rfl)
  have ei:ac s.2.2.2.2.1 a=some (s.2.2.2.2.1.getD a.toNat 0):=aT 0 g1 (by omega)
  simp only [epop,f7,ZJ,f9,Int.reduceBEq,no,We,WE,Int.reduceEq]
  by_cases hv:st.length=0
  ·rw [if_pos hv,if_pos hv,vW ht]
   rfl
  ·rw [if_neg hv,if_neg hv]
   have ei' : ac (bV s i (fs++[f],st.take (st.length - 1),w,false)).2.2.2.2.1 a=some (s.2.2.2.2.1.getD a.toNat 0):=ei
   by_cases hj:j=0
   ·rw [if_pos hj]
    simp only [f9,bt hj,ei',f7,ZJ]
    rfl
   ·rw [if_neg hj]
    simp only [f9,bf hj,no]
    rfl
 ·subst h
  obtain ⟨g1,g2⟩:=o11 (.inr rfl)
  obtain ⟨g3,g4⟩:=o12 (.inr (.inr rfl))
  have ei:ac s.2.2.2.2.1 a=some (s.2.2.2.2.1.getD a.toNat 0):=aT 0 g1 (by omega)
  have ej:ac f.2 b=some (f.2.getD b.toNat 0):=aT 0 g3 (by omega)
  simp only [et,ei,ej,efr,ela,ewl,edl,jE ht,f7,ZJ,V9,af,f9,Int.reduceBEq,no,We,WE,Int.reduceEq,VY,cN,YS]
  rfl
theorem aho (hn:s.1.length≤1048576):Itr.it (dU (c,e,s,sd)) (0,0)=some (dD s s.1.length):=
 c9 (f:=dU (c,e,s,sd)) (fun y=>s.1.length - y.2.toNat) (fun _=>dD s s.1.length) (fun y=>∃ k:Nat,y=(dD s k,(k:Int))∧k≤s.1.length)
  (fun y hy=>by
   obtain ⟨k,rfl,hk⟩:=hy
   rcases WG k s.1.length with hlt | hge
   ·right
    refine ⟨(dD s (k+1),((k+1:Nat):Int)),?_,⟨k+1,rfl,by omega⟩,by dsimp only; omega,rfl⟩
    have hl:=A8 s k
    rw [show dD s (k+1)=if (bL s k).2.2.2=true then dD s k else dD s k+1 from rfl]
    unfold dU
    simp only [aw (show (k:Int)<(s.1.length:Int) by omega),f9,bC (fJ hlt),f7,ZJ,aW (n:=s.1.length) (by omega) hlt]
    cases (bL s k).2.2.2
    ·simp only [Wn,f9,f7,ZJ,XV,WE,aZ (x:=dD s k+1) (by omega) (by omega)]
     rfl
    ·simp only [WM,no,f7,ZJ,We]
     rfl
   ·left
    have:k=s.1.length:=by omega
    subst this
    unfold dU
    simp only [aG (show ¬ (s.1.length:Int)<(s.1.length:Int) by omega),no]) (s:=(0,0)) ⟨0,rfl,by omega⟩ (by show s.1.length - (0:Int).toNat<_; omega)
def A0 (c:CC) (p:Int):Th:=([(c.2.1.getD p.toNat 0,List.replicate (c.2.2.1.getD p.toNat 0).toNat 0)],[],0,false)
def uD (s:aO) (i:Nat) (fs:List Fr) (f:Fr) (st:List Int) (w:Int):aO:=bV s i (fs++[(ad (f.1+1),f.2)],st,w,false)
abbrev vF:Type:=List Int×List bR×Bool×aO
def oN (c:CC) (s:aO) (i:Nat) (fs:List Fr) (f:Fr) (st:List Int) (w:Int) (p:Int):vF:=
 if 5≤dD s s.1.length then ([],[(5,0,true)],false,s)
 else ([(s.1.length:Int),(i:Int)],[(5,0,true),(5,(s.1.length:Int)+1,true)],true,((uD s i fs f st w).1++[A0 c p],(uD s i fs f st w).2))
theorem Ak {n:Nat} (h:n≤1048576):gz (n:Int)=some (5,(n:Int)+1,true):=by
 unfold gz
 rw [Int.add_comm,aZ (by omega) (by omega)]
theorem ajP (hc:bj c)           (h:AtP c s i fs f st w x k pc) (hop:x.1=18) (hn:s.1.length≤1048575) :
  ly (c,e,s,acc) (i:Int) x.2.1=some ((oN c s i fs f st w x.2.1).1,(oN c s i fs f st w x.2.1).2.2.1,(c,e,(oN c s i fs f st w x.2.1).2.2.2,(oN c s i fs f st w x.2.1).2.1.foldl cv acc)):=by
 obtain ⟨ht,hnf,hm,hpc1,hpc2,hpr,hlo,hx⟩:=h
 have hF:=hc.2.2.1 k pc hpc2 hpr
 rw [hx] at hF
 obtain ⟨⟨h0,_⟩,_,hO⟩:=hF
 have et:=bC ht
 have efr : ∀ g:Fr,ac (fs++[g]) (fs.length:Int)=some g:=fun g=>by simp [ac]
 have ela : ∀ g:Fr,((fs++[g]).length:Int)=(fs.length:Int)+1:=fun g=>by simp
 have ewl:ad ((fs.length:Int)+1 - 1)=(fs.length:Int):=by rw [aZ (by omega) (by omega)]; omega
 obtain ⟨op,a,b⟩:=x
 obtain ⟨o1,o2,o3,o4,o5,o6,o7,o8,o9,o10,o11,o12⟩:=hO
 obtain ⟨hl512,hLi,hAF,hSm⟩:=hc
 obtain ⟨g1,g2⟩:=o3 (.inr hop)
 have ei:ac c.2.1 a=some (c.2.1.getD a.toNat 0):=aT 0 g1 g2
 have ej:ac c.2.2.1 a=some (c.2.2.1.getD a.toNat 0):=aT 0 g1 (by have:=hLi.1.2.1; dsimp only at g1 g2; omega)
 obtain ⟨_,_,_,_,q5,q6⟩:=hLi.2.2.1 a.toNat (by dsimp only at g1 g2; omega)
 have hi:=dt ht
 unfold ly oN
 dsimp only
 have ea:(cO ae (.sc .bool) (5,0,false) (bif (dh ae (.sc .bool) (5,0,false) acc).getD false then true else true) acc)=cv acc (5,0,true):=rfl
 rw [ea]
 simp only [UQ c e s (cv acc (5,0,true)) (by omega),f7,ZJ]
 by_cases h5:5≤dD s s.1.length
 ·rw [if_pos h5,aw (by omega)]
  rfl
 ·rw [if_neg h5,aG (by omega)]
  have ewl2:ad (((fs.length+1:Nat):Int) - 1)=(fs.length:Int):=by rw [aZ (by omega) (by omega)]; omega
  have ewn:ad (((s.1.length+1:Nat):Int) - 1)=(s.1.length:Int):=by rw [aZ (by omega) (by omega)]; omega
  have ewm:ad (1+(s.1.length:Int))=(s.1.length:Int)+1:=by rw [aZ (by omega) (by omega)]; omega
  have eml:decide (0≤c.2.2.1.getD a.toNat 0∧c.2.2.1.getD a.toNat 0 * 8≤281474976710656∧c.2.2.1.getD a.toNat 0≤maxLen)=true:=aw (by refine ⟨q5,by omega,?_⟩; simp only [maxLen]; omega)
  have a1:aJ s.1.length 1 64=true:=aY (by omega) (by omega)
  simp only [no,et,ei,ej,f7,ZJ,efr,V9,YS,af,f9,VY,cN,Vs,XE,Vp,ewl2,ewn,ewm,eml,a1,
   aw (show (0:Int)≤(i:Int)∧(i:Int)<(s.1.length:Int) - 0 by omega)]
  rfl
theorem ajZ (hc:bj c)           (h:AtP c s i fs f st w x k pc) (hop:x.1=18) (hn:s.1.length≤1048575) :
  i5 (c,e,s,sd) (i:Int) x.2.1=some ((oN c s i fs f st w x.2.1).1,(oN c s i fs f st w x.2.1).2.1,(oN c s i fs f st w x.2.1).2.2.1,(c,e,(oN c s i fs f st w x.2.1).2.2.2,sd)):=by
 obtain ⟨ht,hnf,hm,hpc1,hpc2,hpr,hlo,hx⟩:=h
 have hF:=hc.2.2.1 k pc hpc2 hpr
 rw [hx] at hF
 obtain ⟨⟨h0,_⟩,_,hO⟩:=hF
 obtain ⟨op,a,b⟩:=x
 obtain ⟨o1,o2,o3,o4,o5,o6,o7,o8,o9,o10,o11,o12⟩:=hO
 obtain ⟨hl512,hLi,hAF,hSm⟩:=hc
 obtain ⟨g1,g2⟩:=o3 (.inr hop)
 have ei:ac c.2.1 a=some (c.2.1.getD a.toNat 0):=aT 0 g1 g2
 have ej:ac c.2.2.1 a=some (c.2.2.1.getD a.toNat 0):=aT 0 g1 (by have:=hLi.1.2.1; dsimp only at g1 g2; omega)
 obtain ⟨_,_,_,_,q5,q6⟩:=hLi.2.2.1 a.toNat (by dsimp only at g1 g2; omega)
 have hi:=dt ht
 unfold i5 oN
 dsimp only
 simp only [aho (show s.1.length≤1048576 by omega),f7,ZJ]
 by_cases h5:5≤dD s s.1.length
 ·rw [if_pos h5,aw (by omega)]
  rfl
 ·rw [if_neg h5,aG (by omega)]
  have ewn:ad (((s.1.length+1:Nat):Int) - 1)=(s.1.length:Int):=by rw [aZ (by omega) (by omega)]; omega
  have eml:decide (0≤c.2.2.1.getD a.toNat 0∧c.2.2.1.getD a.toNat 0 * 8≤281474976710656∧c.2.2.1.getD a.toNat 0≤maxLen)=true:=aw (by refine ⟨q5,by omega,?_⟩; simp only [maxLen]; omega)
  have epl : ∀ t,(bV s i t).1.length=s.1.length:=fun t=>by unfold bV; simp
  have a1:aJ s.1.length 1 64=true:=aY (by omega) (by omega)
  have a2:aJ 1 1 24=true:=aY (by omega) (by omega)
  simp only [no,lz (c:=c) (e:=e) (a:=sd) ht (by omega),ei,ej,f7,ZJ,af,f9,Vs,Vp,epl,ewn,eml,a1,a2,Ak (show s.1.length≤1048576 by omega)]
  rfl
end Go.Proofs.YtfhhiajfciblbaaGreatDoor
