/- Laws for the row. No condition. -/
import Derived.Test.YtfhhiajfciblbaaGreatDoorLawG6
import Derived.Test.YtfhhiajfciblbaaGreatDoorLawM8
import Derived.KernelRfl
namespace Go.Proofs.YtfhhiajfciblbaaGreatDoor
open Go.Sm
set_option linter.unusedVariables false
set_option linter.unusedSectionVars false
set_option maxRecDepth 4000
variable {s:aF} {c:CC} {i k pc:Nat} {st:List Int} {w j:Int} {fs:List Fr} {f:Fr} {e x:bu} {acc:List ((Int×Int×Bool)×Bool)} {t:Th} {sd:List bI}
theorem CG (v n:Nat):Int.tmod (v:Int) (n:Int)=((v % n:Nat):Int):=by
 grind
theorem Oo (v n:Nat):Int.tdiv (v:Int) (n:Int)=((v / n:Nat):Int):=by
 grind
theorem CU (v:Nat):Int.tmod (v:Int) 2=((v % 2:Nat):Int):=CG v 2
theorem tm4 (v:Nat):Int.tmod (v:Int) 4=((v % 4:Nat):Int):=CG v 4
theorem tm9 (v:Nat):Int.tmod (v:Int) 9=((v % 9:Nat):Int):=CG v 9
theorem td2 (v:Nat) (h:v<4096):ad (Int.tdiv (v:Int) 2)=((v / 2:Nat):Int):=by
 rw [show Int.tdiv (v:Int) 2=((v / 2:Nat):Int) from Oo v 2]
 exact aY (by omega) (by omega)
theorem td9 (v:Nat) (h:v<4096):ad (Int.tdiv (v:Int) 9)=((v / 9:Nat):Int):=by
 rw [show Int.tdiv (v:Int) 9=((v / 9:Nat):Int) from Oo v 9]
 exact aY (by omega) (by omega)
theorem pe (k i:Int) {v w:Nat} (hv:v<4096) (hw:w<4096) (h1:v % 2=w % 2) (h2:v / 2 % 4=w / 2 % 4):cx k i (v:Int)=cx k i (w:Int):=by
 have h3:v / 2 % 2=w / 2 % 2:=by omega
 unfold cx
 simp only [CU,tm4,td2 v hv,td2 w hw,h1,h2,h3]
theorem jP {kind:Int} {n:Nat} (h:kg kind n=true) {r:Nat} (hi:i<3) (hr:r<n):gv kind (i:Int) (r:Int)=true:=by
 unfold kg at h
 have h1:=W3.1 h (i:Int) (by
  grind)
 grind
theorem lR (k i v:Int) (hk:k=0∨k=1∨k=2∨k=3∨k=4∨k=5):cv k i v=cx k i v:=by
 unfold cv bF
 rcases hk with rfl | rfl | rfl | rfl | rfl | rfl <;> simp only [Int.reduceBEq,f9,no,f7,Zj]
 ·cases cx 0 i v <;> rfl
 ·cases cx 1 i v <;> rfl
 ·cases cx 2 i v <;> rfl
 ·cases cx 3 i v <;> rfl
 ·cases cx 4 i v <;> rfl
 ·cases cx 5 i v <;> rfl
theorem uG (k i v w:Int) (h:bF k i v=bF k i w) (hn:bF k i w≠some (.inl ())):cv k i v=cv k i w:=by
 unfold cv
 rw [h]
 cases hp:bF k i w with
 | none=>rfl
 | some z=>
  grind
theorem uz (k i w:Int) (hk:k=6∨k=7∨k=8∨k=9∨k=10∨k=11∨k=12):bF k i w≠some (.inl ()):=by
 intro hp
 unfold bF at hp
 rcases hk with rfl | rfl | rfl | rfl | rfl | rfl | rfl <;> simp [af,Bool.cond_eq_ite,Zb] at hp
section
variable {i v:Nat} (hi:i<3) (hv:v<4096)
include hi hv
theorem alg:gv 0 (i:Int) (v:Int)=true:=by
 rw [← jP akM hi (show v % 8<8 by omega)]
 unfold gv
 rw [lR _ _ _ (by omega),lR _ _ _ (by omega),pe 0 (i:Int) (w:=v % 8) hv (by omega) (by omega) (by omega)]
theorem ali:gv 1 (i:Int) (v:Int)=true:=by
 rw [← jP akC hi (show v % 8<8 by omega)]
 unfold gv
 rw [lR _ _ _ (by omega),lR _ _ _ (by omega),pe 1 (i:Int) (w:=v % 8) hv (by omega) (by omega) (by omega)]
theorem alA:gv 2 (i:Int) (v:Int)=true:=by
 rw [← jP akk hi (show v % 8<8 by omega)]
 unfold gv
 rw [lR _ _ _ (by omega),lR _ _ _ (by omega),pe 2 (i:Int) (w:=v % 8) hv (by omega) (by omega) (by omega)]
theorem alv:gv 3 (i:Int) (v:Int)=true:=by
 rw [← jP aky hi (show v % 8<8 by omega)]
 unfold gv
 rw [lR _ _ _ (by omega),lR _ _ _ (by omega),pe 3 (i:Int) (w:=v % 8) hv (by omega) (by omega) (by omega)]
theorem alx:gv 4 (i:Int) (v:Int)=true:=by
 rw [← jP akr hi (show v % 8<8 by omega)]
 unfold gv
 rw [lR _ _ _ (by omega),lR _ _ _ (by omega),pe 4 (i:Int) (w:=v % 8) hv (by omega) (by omega) (by omega)]
theorem alc:gv 5 (i:Int) (v:Int)=true:=by
 rw [← jP akN hi (show v % 8<8 by omega)]
 unfold gv
 rw [lR _ _ _ (by omega),lR _ _ _ (by omega),pe 5 (i:Int) (w:=v % 8) hv (by omega) (by omega) (by omega)]
theorem ale:gv 6 (i:Int) (v:Int)=true:=by
 rw [← jP aks hi (show v % 3<3 by omega)]
 unfold gv
 have e1:v % 3 % 3=v % 3:=by omega
 rw [uG 6 (i:Int) (v:Int) ((v % 3:Nat):Int) (by unfold bF; grind) (uz _ _ _ (by omega))]
theorem alz:gv 7 (i:Int) (v:Int)=true:=by
 rw [← jP aka hi (show v % 3<3 by omega)]
 unfold gv
 have e1:v % 3 % 3=v % 3:=by omega
 rw [uG 7 (i:Int) (v:Int) ((v % 3:Nat):Int) (by unfold bF; grind) (uz _ _ _ (by omega))]
theorem alw:gv 8 (i:Int) (v:Int)=true:=by
 rw [← jP aj9 hi (show v % 2<2 by omega)]
 unfold gv
 have e1:v % 2 % 2=v % 2:=by omega
 rw [uG 8 (i:Int) (v:Int) ((v % 2:Nat):Int) (by unfold bF; grind) (uz _ _ _ (by omega))]
theorem alu:gv 9 (i:Int) (v:Int)=true:=by
 rw [← jP akq hi (show v % 2<2 by omega)]
 unfold gv
 have e1:v % 2 % 2=v % 2:=by omega
 rw [uG 9 (i:Int) (v:Int) ((v % 2:Nat):Int) (by unfold bF; grind) (uz _ _ _ (by omega))]
theorem aj7:gv 10 (i:Int) (v:Int)=true:=by
 rw [← jP aij hi (show v % 3<3 by omega)]
 unfold gv
 have e1:v % 3 % 3=v % 3:=by omega
 rw [uG 10 (i:Int) (v:Int) ((v % 3:Nat):Int) (by unfold bF; grind) (uz _ _ _ (by omega))]
theorem akR:gv 11 (i:Int) (v:Int)=true:=by
 rw [← jP ajh hi (show v % 3<3 by omega)]
 unfold gv
 have e1:v % 3 % 3=v % 3:=by omega
 rw [uG 11 (i:Int) (v:Int) ((v % 3:Nat):Int) (by unfold bF; grind) (uz _ _ _ (by omega))]
theorem akL:gv 12 (i:Int) (v:Int)=true:=by
 rw [← jP ahH hi (show v % 3<3 by omega)]
 unfold gv
 have e1:v % 3 % 3=v % 3:=by omega
 rw [uG 12 (i:Int) (v:Int) ((v % 3:Nat):Int) (by unfold bF; grind) (uz _ _ _ (by omega))]
theorem akt:gv 13 (i:Int) (v:Int)=true:=by
 rw [← jP ajK hi (show v % 18<18 by omega)]
 unfold gv
 have e1:v % 18 % 9=v % 9:=by omega
 have e2:v % 18 / 9 % 2=v / 9 % 2:=by omega
 have e3:cv 13 (i:Int) (v:Int)=cv 13 (i:Int) ((v % 18:Nat):Int):=by
  unfold cv bF
  simp only [Int.reduceBEq,no,f7,Zj,CU,tm9,td9 v hv,td9 (v % 18) (by omega),e1,e2]
 rw [e3]
end
theorem aiQ {v:Nat} (hk:k<14) (hi:i<3) (hv:v<4096) : ∃ p,cv (k:Int) (i:Int) (v:Int)=some p∧(∀ d∈p,pv d)∧p.length≤6:=by
 have h:gv (k:Int) (i:Int) (v:Int)=true:=by
  have:k=0∨k=1∨k=2∨k=3∨k=4∨k=5∨k=6∨k=7∨k=8∨k=9∨k=10∨k=11∨k=12∨k=13:=by omega
  rcases this with rfl | rfl | rfl | rfl | rfl | rfl | rfl | rfl | rfl | rfl | rfl | rfl | rfl | rfl
  ·exact alg hi hv
  ·exact ali hi hv
  ·exact alA hi hv
  ·exact alv hi hv
  ·exact alx hi hv
  ·exact alc hi hv
  ·exact ale hi hv
  ·exact alz hi hv
  ·exact alw hi hv
  ·exact alu hi hv
  ·exact aj7 hi hv
  ·exact akR hi hv
  ·exact akL hi hv
  ·exact akt hi hv
 unfold gv at h
 split at h
 ·rename_i p hp
  simp only [Wp] at h
  exact ⟨p,hp,fun d hd=>OS (W3.1 h.1 d hd),Wt h.2⟩
 ·cases h
def qi (x:Int):Prop:=-9223372036854775808≤x∧x≤9223372036854775807
theorem qH {x n:Int} (hx:qi x) (hn:0<n) (hn2:n≤9223372036854775807) : ∃ r,dD x n=some r∧0≤r∧r<n:=by
 unfold dD
 obtain ⟨h1,h2⟩:=hx
 have fin : ∀ y:Int,0≤y→∃ r,(some y:Option Int).bind (fun s1=>af (!(n==0)) (some (Int.tmod s1 n)))=some r∧0≤r∧r<n:=by
  intro y hy
  refine ⟨Int.tmod y n,?_,?_,?_⟩
  ·simp only [f7,Zj]
   rw [jI (by grind)]
  ·rw [afy hy]; exact Int.emod_nonneg _ (by omega)
  ·rw [afy hy]; exact Int.emod_lt_of_pos _ hn
 by_cases hz:x<0
 ·rw [aq hz,f9]
  refine fin _ ?_
  rw [aY (x:=x+1) (by omega) (by omega),aY (by omega) (by omega)]
  omega
 grind
theorem at_ok {l:List Int} (hl : ∀ x∈l,qi x) (i:Int) {n:Int} (hn:0<n) (hn2:n≤9223372036854775807) : ∃ r,iq l i n=some r∧0≤r∧r<n:=by
 unfold iq
 rw [oN]
 by_cases h:i<0∨(l.length:Int)≤i
 ·grind
 ·rw [aE h,no,aT 0 (by omega) (by omega)]
  obtain ⟨r,h1,h2⟩:=qH (hl (l.getD i.toNat 0) (dv 0 (by omega))) hn hn2
  grind
theorem QZ (l:List Int) (hl : ∀ x∈l,qi x) : ∃ p,kC l=some p∧(∀ d∈p,pv d)∧p.length≤24:=by
 unfold kC
 obtain ⟨a,ha,ha1,ha2⟩:=at_ok hl 0 (n:=3) (by omega) (by omega)
 obtain ⟨o,h1,h2,h3⟩:=fw (f:=ka l) (fun s=>4 - s.2.2.toNat) (fun s=>∃ i:Nat,s.2.2=(i:Int)∧(i:Int)≤a+1∧(∀ d∈s.1,pv d)∧s.1.length≤7 * i) (fun r=>(∀ d∈r,pv d)∧r.length≤24)
  (fun s hs=>by
   obtain ⟨o,b,s2⟩:=s
   obtain ⟨i,e1,hi,hg,hlen⟩:=hs
   dsimp only at e1 hg hlen
   subst e1
   unfold ka
   have ew:ad ((1:Int)+a)=a+1:=by rw [aY (by omega) (by omega)]; omega
   simp only [ha,f7,Zj,ew]
   by_cases hlt:(i:Int)<a+1
   ·right
    obtain ⟨r,hr,hr1,hr2⟩:=at_ok hl (ad ((1:Int)+(i:Int))) (n:=4096) (by omega) (by omega)
    obtain ⟨rn,rfl⟩ : ∃ rn:Nat,r=(rn:Int):=⟨r.toNat,by omega⟩
    have et:Int.tmod (rn:Int) 14=((rn % 14:Nat):Int):=CG rn 14
    have ed:ad (Int.tdiv (rn:Int) 14)=((rn / 14:Nat):Int):=by
     rw [show Int.tdiv (rn:Int) 14=((rn / 14:Nat):Int) from Oo rn 14]
     exact aY (by omega) (by omega)
    obtain ⟨p,hp,hp1,hp2⟩:=aiQ (k:=rn % 14) (i:=i) (v:=rn / 14) (by omega) (by omega) (by omega)
    have ew2:ad ((i:Int)+1)=((i+1:Nat):Int):=by rw [aY (by omega) (by omega)]; omega
    have a1 : ∀ m n:Nat,m+n≤100→aK m n 32=true:=fun m n h=>ba (by omega) (by omega)
    simp only [aq hlt,f9,hr,f7,Zj,et,ed,hp,af,show (!((14:Int)==0))=true from rfl,a1 o.length p.length (by omega),a1 (o++p).length ([(pS,ly)]:List Df).length (by grind),ew2]
    have hop : ∀ d∈o++p,pv d:=fun d hd=>(Xd.1 hd).elim (hg d) (hp1 d)
    cases (bif ((rn % 14:Nat):Int)==(9:Int) then !b else false)
    ·exact ⟨_,rfl,⟨i+1,rfl,by omega,hop,by grind⟩,by grind⟩
    ·refine ⟨_,rfl,⟨i+1,rfl,by omega,fun d hd=>?_,by grind⟩,by grind⟩
     rcases Xd.1 hd with hd | hd
     ·exact hop d hd
     ·rw [Wz.1 hd]
      exact OS MR
   grind) (s:=([],false,0)) ⟨0,rfl,by omega,fun d hd=>(by cases hd),by simp⟩ (by grind)
 rw [h1]
 obtain ⟨by_,hb,hb1,hb2⟩:=at_ok hl 4 (n:=64) (by omega) (by omega)
 simp only [f7,Zj,hb]
 unfold ou
 obtain ⟨r,g1,g2,g3⟩:=fw (f:=kA o by_) (fun s=>o.length - s.2.toNat) (fun s=>∃ i:Nat,s.2=(i:Int)∧i≤o.length∧s.1.length=i∧∀ d∈s.1,d∈o) (fun r=>(∀ d∈r,d∈o)∧r.length≤o.length)
  (fun s hs=>by
   obtain ⟨q,s2⟩:=s
   obtain ⟨i,e1,hi,hlen,hin⟩:=hs
   dsimp only at e1 hlen hin
   subst e1
   unfold kA
   rcases XJ i o.length with hlt | hge
   ·right
    obtain ⟨c,hc,hc1,hc2⟩:=qH (x:=by_) (n:=(o.length:Int)) ⟨by omega,by omega⟩ (by omega) (by omega)
    have ew:ad ((i:Int)+c)=(i:Int)+c:=aY (by omega) (by omega)
    have em:Int.tmod ((i:Int)+c) (o.length:Int)=((i:Int)+c) % (o.length:Int):=afy (by omega)
    have m0:=Int.emod_nonneg ((i:Int)+c) (show (o.length:Int)≠0 by omega)
    have m1:=Int.emod_lt_of_pos ((i:Int)+c) (show (0:Int)<(o.length:Int) by omega)
    generalize ((i:Int)+c) % (o.length:Int)=md at em m0 m1
    have ew2:ad ((o.length:Int) - 1)=(o.length:Int) - 1:=aY (by omega) (by omega)
    have ew3:ad ((o.length:Int) - 1 - md)=(o.length:Int) - 1 - md:=aY (by omega) (by omega)
    simp only [aq (show (i:Int)<(o.length:Int) by omega),f9,hc,f7,Zj,af,show (!((o.length:Int)==0))=true by grind,show (!((2:Int)==0))=true from rfl,ew,em,ew2,ew3,aW (n:=o.length) (by omega) hlt]
    have fin : ∀ k:Int,0≤k→k<o.length→∃ s',((some k:Option Int).bind fun s5=>(ac o s5).bind fun _=>(ac o s5).bind fun v7=>bif aK q.length ([v7]:List Df).length 32 then some (q++([v7]:List Df)) else none).bind (fun s3=>(some (Sum.inl (s3,(i:Int)+1)):Option (IX⊕List Df)))=some (Sum.inl s')∧(∃ i:Nat,s'.2=(i:Int)∧i≤o.length∧s'.1.length=i∧∀ d∈s'.1,d∈o)∧o.length - s'.2.toNat<o.length - i:=by
     intro k k0 k1
     simp only [f7,Zj,aT ([],[]) k0 k1]
     rw [show aK q.length ([o.getD k.toNat ([],[])]:List Df).length 32=true from ba (by grind) (by omega)]
     refine ⟨_,rfl,⟨i+1,rfl,by omega,by simp [hlen],fun d hd=>?_⟩,by grind⟩
     grind
    cases (Int.tmod by_ 2 != 0)
    ·simp_all
    ·exact fin ((o.length:Int) - 1 - md) (by omega) (by omega)
   grind) (s:=([],0)) ⟨0,rfl,by omega,rfl,fun d hd=>(by cases hd)⟩ (by grind)
 grind
theorem MP (l:List Int) (hl : ∀ x∈l,qi x) : ∃ c,jO l=some c∧HQ c∧c.1.length≤512:=by
 unfold jO
 obtain ⟨p,hp,hp1,hp2⟩:=QZ l hl
 rw [hp]
 simp only [f7,Zj]
 obtain ⟨c,e,hc,hc1,hc2⟩:=PA p hp2 hp1 EZ
 grind
set_option linter.unusedSimpArgs false
theorem ald {m n:Nat} (h:m+n≤2097152):aK m n 24=true:=ba (by omega) (by omega)
theorem ajt {x:Int} (h:qi x) : ∃ e,nQ x=some e:=by
 unfold nQ
 obtain ⟨r,e1,g,k⟩:=qH h (n:=4096) (by omega) (by omega)
 obtain ⟨n,rfl⟩ : ∃ n:Nat,r=(n:Int):=⟨r.toNat,by omega⟩
 have q1:ad (Int.tdiv (n:Int) 4)=((n / 4:Nat):Int):=by rw [show Int.tdiv (n:Int) 4=((n / 4:Nat):Int) from Oo n 4]; exact aY (by omega) (by omega)
 have q2:ad (Int.tdiv (n:Int) 20)=((n / 20:Nat):Int):=by rw [show Int.tdiv (n:Int) 20=((n / 20:Nat):Int) from Oo n 20]; exact aY (by omega) (by omega)
 have q3:Int.tmod ((n / 4:Nat):Int) 5=((n / 4 % 5:Nat):Int):=CG (n / 4) 5
 have q4:Int.tmod ((n / 20:Nat):Int) 4=((n / 20 % 4:Nat):Int):=CG (n / 20) 4
 rw [e1]
 simp only [f7,Zj,af,show (!((4:Int)==0))=true from rfl,show (!((5:Int)==0))=true from rfl,show (!((20:Int)==0))=true from rfl,f9,q1,q2,q3,q4]
 rw [aB (xs:=([0,0,1,8,4]:List Int)) 0 (show n / 4 % 5<5 by omega),aB (xs:=([0,0,2,8]:List Int)) 0 (show n / 20 % 4<4 by omega)]
 simp_all
theorem XD {c:ax} (ht:eP c) {l:List Int} (hl : ∀ x∈l,qi x) : ∃ r,mh c l=some r∧r.length≤6:=by
 unfold mh
 obtain ⟨r,h1,h2⟩:=fw (f:=lg c l) (fun s=>7 - s.2.toNat) (fun s=>∃ i:Nat,s.2=(i:Int)∧i≤6∧s.1.length≤i) (fun r=>r.length≤6)
  (fun s hs=>by
   obtain ⟨o,s2⟩:=s
   obtain ⟨i,e1,hi,hlen⟩:=hs
   dsimp only at e1 hlen
   subst e1
   unfold lg
   simp only [l7]
   by_cases hlt:(i:Int)<l.length∧(i:Int)<6
   ·right
    have hp : ∃ r,mV l (o,(i:Int)) c=some r∧r.length=o.length+1:=by
     unfold mV
     dsimp only
     obtain ⟨q,eq,g,k⟩:=qH (hl (l.getD i 0) (dv 0 (by omega))) (n:=4096) (by omega) (by omega)
     obtain ⟨n,rfl⟩ : ∃ n:Nat,q=(n:Int):=⟨q.toNat,by omega⟩
     have q1:ad (Int.tdiv (n:Int) 21)=((n / 21:Nat):Int):=by rw [show Int.tdiv (n:Int) 21=((n / 21:Nat):Int) from Oo n 21]; exact aY (by omega) (by omega)
     simp only [aB (0:Int) (show i<l.length by omega),f7,Zj,eq,af,show (!((7:Int)==0))=true from rfl,show (!((3:Int)==0))=true from rfl,show (!((21:Int)==0))=true from rfl,f9,agH,q1]
     have h7 : ∃ x,(bif (bif decide ((0:Int)<(c.2.2.2.1.length:Int)) then decide ((0:Int)<Int.tmod (n:Int) 3) else false) then bif (!((c.2.2.2.1.length:Int)==0)) then (ac c.2.2.2.1 (Int.tmod ((n / 21:Nat):Int) (c.2.2.2.1.length:Int))).bind fun _=>(ac c.2.2.2.1 (Int.tmod ((n / 21:Nat):Int) (c.2.2.2.1.length:Int))).bind fun v9=>some (v9.1,ad (Int.tmod (n:Int) 7 - 3)) else none else some (y9,ad (Int.tmod (n:Int) 7 - 3)))=some x:=by
      simp only [l7]
      by_cases hz:(0:Int)<(c.2.2.2.1.length:Int)∧(0:Int)<Int.tmod (n:Int) 3
      ·rw [aq hz,show (!((c.2.2.2.1.length:Int)==0))=true by grind,CG]
       simp only [f9]
       rw [aB (([],0):List UInt8×Int) (Nat.mod_lt _ (by omega))]
       simp_all
      ·rw [aE hz]
       grind
     obtain ⟨x7,hx7⟩:=h7
     have h10 : ∃ x,(bif (bif decide ((0:Int)<(c.2.2.2.2.2.2.1.length:Int)) then Int.tmod (n:Int) 3==2 else false) then bif (!((c.2.2.2.2.2.2.1.length:Int)==0)) then (ac c.2.2.2.2.2.2.1 (Int.tmod ((n / 21:Nat):Int) (c.2.2.2.2.2.2.1.length:Int))).bind fun _=>(ac c.2.2.2.2.2.2.1 (Int.tmod ((n / 21:Nat):Int) (c.2.2.2.2.2.2.1.length:Int))).bind fun v12=>some (v12,x7.2) else none else some x7)=some x:=by
      simp only [pW,l7]
      by_cases hz:(0:Int)<(c.2.2.2.2.2.2.1.length:Int)∧Int.tmod (n:Int) 3=2
      ·rw [aq hz,aE (show ¬ (c.2.2.2.2.2.2.1.length:Int)=0 by omega),CG]
       simp only [f9,Xo]
       rw [aB ([]:List UInt8) (Nat.mod_lt _ (by omega))]
       grind
      grind
     obtain ⟨x10,hx10⟩:=h10
     refine ⟨o++[x10],?_,by simp⟩
     refine (XZ (fun z:Option (List UInt8×Int)=>z.bind _) hx7).trans ?_
     simp only [f7,Zj]
     refine (XZ (fun z:Option (List UInt8×Int)=>z.bind _) hx10).trans ?_
     simp only [f7,Zj]
     rw [show aK o.length ([x10]:List (List UInt8×Int)).length 24=true from ald (by grind)]
     rfl
    obtain ⟨r,hp1,hp2⟩:=hp
    simp only [aq hlt,f9,hp1,f7,Zj,aW (n:=6) (by omega) (show i<6 by omega)]
    exact ⟨_,rfl,⟨i+1,rfl,by omega,by grind⟩,by grind⟩
   grind) (s:=([],0)) ⟨0,rfl,by omega,by simp⟩ (by grind)
 grind
set_option maxRecDepth 100000
theorem CO:mn=some true:=by kernel_rfl
set_option maxRecDepth 4000
theorem Fy (l:List Int) (h:l.length≤1048576):dF l l=some true:=by
 unfold dF
 rw [show ((l.length:Int) != (l.length:Int))=false by simp,no]
 rcases cH (f:=cX l l) l.length (by omega) (fun _=>True) (fun _=>false)
  (fun i hi _=>by
   left
   refine ⟨trivial,?_⟩
   unfold cX
   simp only [aq (show (i:Int)<(l.length:Int) by omega),f9,aB 0 hi,f7,Zj,Zh,no,aW (n:=l.length) (by omega) hi])
  (fun _=>by unfold cX; rw [aE (by omega)]; rfl) with ⟨_,he⟩ | ⟨i,_,_,hP,_⟩
 ·rw [he]; rfl
 ·exact absurd trivial hP
theorem aiR (s:aF) (hs:cU s) (hi:i<s.1.length) (z:ko):Itr.it (iB s ((i:Int),z)) (0,([]:List Fr),(s.1.getD i ([],[],0,false)).2)=some (s.1.getD i ([],[],0,false)):=by
 obtain ⟨h1,h2,h3⟩:=hs.2.1 _ (dv ([],[],0,false) hi)
 have et:=aB (([],[],0,false):Th) hi
 generalize s.1.getD i ([],[],0,false)=t at *
 exact dc (f:=iB s ((i:Int),z)) (fun y=>t.1.length - y.1.toNat) (fun _=>t) (fun y=>∃ k:Nat,y=((k:Int),t.1.take k,t.2)∧k≤t.1.length)
  (fun y hy=>by
   obtain ⟨k,rfl,hk⟩:=hy
   unfold iB
   rcases XJ k t.1.length with hlt | hge
   ·right
    refine ⟨(((k+1:Nat):Int),t.1.take (k+1),t.2),?_,⟨k+1,rfl,by omega⟩,by dsimp only; omega,rfl⟩
    simp only [et,f7,Zj,aq (show (k:Int)<(t.1.length:Int) by omega),f9,aB (0,[]) hlt,aW (n:=t.1.length) (by omega) hlt,eW (0,[]) hlt]
    rw [jI (ba (by simp only [Xz,Wr]; omega) (by omega))]
    rfl
   ·left
    have:k=t.1.length:=by omega
    subst this
    simp [et]) (s:=(0,[],t.2)) ⟨0,rfl,by omega⟩ (by show t.1.length - (0:Int).toNat<_; omega)
theorem ahj (s:aF) (hs:cU s) (z:ko) (hz:z.1=[]):Itr.it (im s) (0,z)=some (s.1,z.2):=by
 have h1:=hs.1
 refine dc (f:=im s) (fun y=>s.1.length - y.1.toNat) (fun _=>(s.1,z.2)) (fun y=>∃ i:Nat,y=((i:Int),s.1.take i,z.2)∧i≤s.1.length)
  (fun y hy=>by
   obtain ⟨i,rfl,hi⟩:=hy
   unfold im
   rcases XJ i s.1.length with hlt | hge
   ·right
    refine ⟨(((i+1:Nat):Int),s.1.take (i+1),z.2),?_,⟨i+1,rfl,by omega⟩,by dsimp only; omega,rfl⟩
    have e2:aK (s.1.take i).length ([s.1.getD i ([],[],0,false)]:List Th).length 64=true:=ba (by simp only [Xz,Wr]; omega) (by omega)
    have e3:=aiR s hs hlt (s.1.take i,z.2)
    simp only [aq (show (i:Int)<(s.1.length:Int) by omega),f9,aB ([],[],0,false) hlt,f7]
    refine (XZ (fun o:Option Th=>(o.bind fun s10=>af (aK (s.1.take i).length ([s10]:List Th).length 64) (some (s.1.take i++([s10]:List Th),z.2))).bind fun s3=>(some (Sum.inl (ad ((i:Int)+1),s3)):Option (oM⊕ko))) e3).trans ?_
    simp only [f7,Zj,af,e2,f9,aW (n:=s.1.length) (by omega) hlt,eW ([],[],0,false) hlt]
    rfl
   ·left
    have:i=s.1.length:=by omega
    subst this
    simp) ⟨0,?_,by omega⟩ (by show s.1.length - (0:Int).toNat<_; omega)
 obtain ⟨z1,z2⟩:=z
 dsimp only at hz
 subst hz
 rfl
theorem Zt (s:aF) (hs:cU s):mi s=some s:=by
 unfold mi
 dsimp only
 rw [ahj s hs _ rfl]
 rfl
def akx:Bool:=(List.range 70).all fun n=>match iG (n:Int) with | some l=>l==List.replicate n 1 | none=>false
theorem T5:akx=true:=by kernel_rfl
theorem zW {n:Nat} (h:n<70):iG (n:Int)=some (List.replicate n 1):=by
 have:=W3.1 T5 n (aaB.2 h)
 grind
theorem Ci (l:List Int) (hl:l.length≤1048576) (x:Int):iU l x=some (decide (x∈l)):=by
 unfold iU nY
 rcases cH (f:=gE l x) l.length (by omega) (fun i=>¬ x=l.getD i 0) (fun i=>(i:Int))
  (fun i hi _=>by
   unfold gE
   simp only [aq (show (i:Int)<(l.length:Int) by omega),f9,aB 0 hi,f7,Zj,aW (n:=l.length) (by omega) hi]
   grind)
  (fun _=>by unfold gE; grind) with ⟨hP,he⟩ | ⟨i,hi,_,hP,he⟩
 ·rw [he,aE (p:=x∈l)]
  ·rfl
  ·intro hm
   obtain ⟨j,hj,rfl⟩:=aan.1 hm
   grind
 simp_all
theorem aly (l:List Int) (hl:l.length≤1048576) (x:Int):oy l x=some (decide (x∈l)):=by
 unfold oy
 rcases cH (f:=jV l x) l.length (by omega) (fun i=>¬ l.getD i 0=x) (fun i=>true)
  (fun i hi _=>by
   unfold jV
   simp only [aq (show (i:Int)<(l.length:Int) by omega),f9,aB 0 hi,f7,Zj,aW (n:=l.length) (by omega) hi]
   grind)
  (fun _=>by unfold jV; grind) with ⟨hP,he⟩ | ⟨i,hi,_,hP,he⟩
 ·rw [he,aE (p:=x∈l)]
  ·rfl
  ·intro hm
   obtain ⟨j,hj,rfl⟩:=aan.1 hm
   grind
 grind
def jb (c:CC) (s:aF) (k:Nat):Bool:=
 if (be s k).2.2.2=true then decide ((be s k).2.1.length=0∧(be s k).2.2.1=0)
 else decide (0≤(be s k).2.2.1∧(be s k).2.2.1≤1048576∧(0≤bj s∨dE (dM c (be s k)) (be s k).1.length=true))
def kY (s:aF) (k:Nat):Prop:=-1≤s.2.2.2.1.getD k 0∧s.2.2.2.1.getD k 0<s.1.length
instance (s:aF) (k:Nat):Decidable (kY s k):=by unfold kY; infer_instance
def cy (s:aF):Nat→Int
 | 0=>0
 | n+1=>if (be s n).2.2.2=true then cy s n else cy s n+1
def qx (c:CC) (s:aF):Prop:=(1≤s.1.length∧s.1.length≤65)∧(∀ k,k<s.2.2.2.1.length→kY s k)∧(∀ k,k<s.1.length→jb c s k=true)∧cy s s.1.length≤5
instance (c:CC) (s:aF):Decidable (qx c s):=by unfold qx; infer_instance
theorem BJ (s:aF) : ∀ n,0≤cy s n∧cy s n≤n:=by
 intro n
 induction n with
 | zero=>simp [cy]
 | succ n ih=>unfold cy; grind
theorem UZ (h:AtP c s i fs f st w x k pc) :
  pN (c,e,s,acc) (i:Int)=some (dE x (fs.length+1)):=Lx (n:=0) (e:=e) (acc:=acc) h
theorem aj8 (hc:bc c) (e:bu) (s:aF) (acc:List ((Int×Int×Bool)×Bool)) (t:Th) (hn:t.1.length≤8) (h : ∀ g∈t.1,uJ c g):Itr.it (fS (c,e,s,acc) t) 0=some (.inl ()):=by
 rcases cH (f:=fS (c,e,s,acc) t) t.1.length (by omega) (fun _=>True) (fun _=>false)
  (fun i hi _=>by
   left
   refine ⟨trivial,?_⟩
   unfold fS
   obtain ⟨k,pc,h1,h2,h3,h4⟩:=h _ (dv (0,[]) hi)
   have hp:=NS (pq hc.2.1 hc.2.2.2) h3 (by omega)
   have hl:ac c.2.2.1 (k:Int)=some (c.2.2.1.getD k 0):=aB 0 (by have:=h3.1; have:=hc.2.1.1.2.1; omega)
   simp only [aq (show (i:Int)<(t.1.length:Int) by omega),f9,aB (0,[]) hi,f7,h1,oN,aE (show ¬ ((pc:Int)<0∨(c.1.length:Int)≤(pc:Int)) by omega),Xo,hp,hl,nf h4,no,aW (n:=t.1.length) (by omega) hi])
  (fun _=>by unfold fS; grind) with ⟨_,he⟩ | ⟨i,_,_,hP,_⟩
 ·exact he
 grind
theorem akT (hc:bc c) (t:Th) (hn:t.1.length≤8) (h : ∀ g∈t.1,uJ c g):Itr.it (fM c t) 0=some (.inl ()):=by
 rcases cH (f:=fM c t) t.1.length (by omega) (fun _=>True) (fun _=>false)
  (fun i hi _=>by
   left
   refine ⟨trivial,?_⟩
   unfold fM
   obtain ⟨k,pc,h1,h2,h3,h4⟩:=h _ (dv (0,[]) hi)
   have hp:=JW (pq hc.2.1 hc.2.2.2) h3
   have hl:ac c.2.2.1 (k:Int)=some (c.2.2.1.getD k 0):=aB 0 (by have:=h3.1; have:=hc.2.1.1.2.1; omega)
   simp only [aq (show (i:Int)<(t.1.length:Int) by omega),f9,aB (0,[]) hi,f7,h1,oN,aE (show ¬ ((pc:Int)<0∨(c.1.length:Int)≤(pc:Int)) by omega),hp,hl,nf h4,no,aW (n:=t.1.length) (by omega) hi])
  (fun _=>by unfold fM; grind) with ⟨_,he⟩ | ⟨i,_,_,hP,_⟩
 ·exact he
 grind
theorem afE (hc:bc c)    (hs:StOk c s)  (hk:k<s.1.length):mU (c,e,s,acc) (k:Int)=some (jb c s k):=by
 unfold mU jb
 rcases j8 hs hk with ⟨h1,h2⟩ | ⟨h1,fs,f,st,w,h2,h3⟩
 ·simp only [bG (fW hk),f7,Zj,h1,h2,List.length_nil,f9,Xa,pW,show decide (((0:Nat):Int)=0)=true from rfl]
  by_cases hl:(be s k).2.1.length=0
  ·grind
  grind
 ·obtain ⟨k',pc,hA⟩:=gx (s:=s) (i:=k) (by rw [fW hk,h2]) h3
  have ht:=bG hA.t
  have hst:=UZ (e:=e) (acc:=acc) hA
  have hfr:=aj8 hc e s acc (fs++[f],st,w,false) (by have:=h3.n; grind) h3.fr
  have hx:dM c (fs++[f],st,w,false)=cz c f.1.toNat:=by rw [dM,dL]
  have hn:=h3.n
  have hm:=h3.m
  rw [h2]
  simp only [ht,f7,Zj,no,Ys,XB,Wu,Wr,bf (show ¬ (((fs.length+1:Nat):Int))=0 by omega),Xo,f9,aE (show ¬ (8:Int)<((fs.length+1:Nat):Int) by omega),aE (show ¬ (16:Int)<(st.length:Int) by omega),hx]
  by_cases hw:w<0
  ·grind
  rw [aE hw]
  simp only [Xo,f9,no,f7,Zj]
  by_cases hw2:1048576<w
  ·grind
  rw [aE hw2]
  simp only [no,hfr,f7,Zj]
  by_cases ho:0≤bj s
  ·have ho' : (0:Int)≤s.2.2.2.2.2.2.2.2.2.1:=ho
   grind
  ·have ho' : ¬ (0:Int)≤s.2.2.2.2.2.2.2.2.2.1:=ho
   simp only [ho',Zw,Xo,no,f9,hst,f7,Zj]
   congr 1
   grind
theorem aeZ (hc:bc c)  (hs:StOk c s)  (hk:k<s.1.length):lZ c (be s k) (decide ((0:Int)≤s.2.2.2.2.2.2.2.2.2.1))=some (jb c s k):=by
 unfold lZ jb
 rcases j8 hs hk with ⟨h1,h2⟩ | ⟨h1,fs,f,st,w,h2,h3⟩
 ·simp only [h1,h2,List.length_nil,f9,Xa,pW,l7]
  simp_all
 ·obtain ⟨k',pc,hA⟩:=gx (s:=s) (i:=k) (by rw [fW hk,h2]) h3
  have hfr:=akT hc (fs++[f],st,w,false) (by have:=h3.n; grind) h3.fr
  have hx:dM c (fs++[f],st,w,false)=cz c f.1.toNat:=by rw [dM,dL]
  have hxi:ac c.1 f.1=some (cz c f.1.toNat):=by rw [hA.pc1]; exact aB _ hA.pc2
  have hn:=h3.n
  have hm:=h3.m
  have efr:ac (fs++[f]) (fs.length:Int)=some f:=by simp [ac]
  have emx:(if (0:Int) > (fs.length:Int) then (0:Int) else (fs.length:Int))=(fs.length:Int):=by grind
  have ewl:ad (((fs.length+1:Nat):Int) - 1)=(fs.length:Int):=by rw [aY (by omega) (by omega)]; omega
  have esd:=Mv (cz c f.1.toNat) (fs.length+1) (by omega)
  rw [h2]
  simp only [no,Ys,XB,Wu,Wr,aE (show ¬ ((fs.length+1:Nat):Int)<1 by omega),aE (show ¬ (8:Int)<((fs.length+1:Nat):Int) by omega),aE (show ¬ (16:Int)<(st.length:Int) by omega),hx,hfr,f7,Zj,ewl,emx,oN]
  by_cases hw:w<0∨1048576<w
  ·grind
  rw [aE hw]
  simp only [no]
  by_cases ho:0≤bj s
  ·have ho' : (0:Int)≤s.2.2.2.2.2.2.2.2.2.1:=ho
   grind
  ·have ho' : ¬ (0:Int)≤s.2.2.2.2.2.2.2.2.2.1:=ho
   simp only [ho',Zw,Xo,no,f9,efr,hxi,esd,f7,Zj]
   congr 1
   grind
theorem UW (c:CC) (e:bu) (s:aF) (acc:List ((Int×Int×Bool)×Bool)) (hn:s.1.length≤1048576):lc (c,e,s,acc)=some (cy s s.1.length):=by
 unfold lc
 rw [dc (f:=mw (c,e,s,acc)) (fun y=>s.1.length - y.2.toNat) (fun _=>cy s s.1.length) (fun y=>∃ k:Nat,y=(cy s k,(k:Int))∧k≤s.1.length)
  (fun y hy=>by
   obtain ⟨k,rfl,hk⟩:=hy
   unfold mw gF
   rcases XJ k s.1.length with hlt | hge
   ·right
    refine ⟨(cy s (k+1),((k+1:Nat):Int)),?_,⟨k+1,rfl,by omega⟩,by grind,rfl⟩
    have hl:=BJ s k
    simp only [aq (show (k:Int)<(s.1.length:Int) by omega),f9,bG (fW hlt),f7,Zj,aW (n:=s.1.length) (by omega) hlt]
    rw [show cy s (k+1)=if (be s k).2.2.2=true then cy s k else cy s k+1 from rfl]
    cases (be s k).2.2.2
    ·simp only [Xo,f9,f7,Zj,Ys,XB,aY (x:=cy s k+1) (by omega) (by omega)]
     rfl
    ·simp only [XO,no,f7,Zj,Xa,Int.add_zero,aY (x:=cy s k) (by omega) (by omega)]
     rfl
   grind) (s:=(0,0)) ⟨0,rfl,by omega⟩ (by grind)]
 rfl
theorem xN (hc:bc c) (e:bu)  (acc:List ((Int×Int×Bool)×Bool)) (hs:StOk c s) (hsm:cU s) : ∃ b,mf (c,e,s,acc)=some b∧(b=true↔qx c s):=by
 unfold mf
 dsimp only
 have hn:=hs.n
 rw [nf (show (s.2.1.length:Int)=c.2.2.2.1.length by rw [hs.fit.vars]),nf (show (s.2.2.1.length:Int)=c.2.2.2.2.1.length by rw [hs.fit.qs]),nf (show (s.2.2.2.1.length:Int)=c.2.2.2.2.2.1.length by rw [hs.fit.own]),nf (show (s.2.2.2.2.1.length:Int)=c.2.2.2.2.2.2.1.length by rw [hs.fit.files])]
 simp only [no,pW,oN]
 by_cases h1:1≤s.1.length∧s.1.length≤65
 rotate_left
 ·rw [aq (by omega)]
  exact ⟨false,rfl,fun h=>(by cases h),fun h=>absurd h.1 h1⟩
 rw [aE (by omega)]
 simp only [no]
 have l1:Itr.it (fK (c,e,s,acc)) 0=some (.inl ()):=by
  rcases cH (f:=fK (c,e,s,acc)) s.2.2.1.length (by have:=hsm.2.2.2.1; omega) (fun _=>True) (fun _=>false)
   (fun i hi _=>by
    left
    refine ⟨trivial,?_⟩
    unfold fK
    have hq:=hs.fit.qs
    have hcap:=hs.cap i (by omega)
    simp only [aq (show (i:Int)<(s.2.2.1.length:Int) by omega),f9,aB [] hi,aB ([],0) (show i<c.2.2.2.2.1.length by omega),f7,aE (show ¬ (c.2.2.2.2.1.getD i ([],0)).2<((s.2.2.1.getD i []).length:Int) by omega),no,aW (n:=s.2.2.1.length) (by have:=hsm.2.2.2.1; omega) hi])
   (fun _=>by unfold fK; grind) with ⟨_,he⟩ | ⟨i,_,_,hP,_⟩
  ·exact he
  grind
 rw [l1]
 simp only [f7,Zj]
 have ho:=hsm.2.2.2.2.2.1
 rcases cH (f:=iw (c,e,s,acc)) s.2.2.2.1.length (by omega) (kY s) (fun _=>false)
  (fun i hi _=>by
   unfold iw
   simp only [aq (show (i:Int)<(s.2.2.2.1.length:Int) by omega),f9,aB 0 hi,f7,Zj,oN,aW (n:=s.2.2.2.1.length) (by omega) hi]
   by_cases h:kY s i
   ·left
    have h' := h
    unfold kY at h'
    grind
   ·right
    have h' := h
    unfold kY at h'
    grind)
  (fun _=>by unfold iw; grind) with ⟨hO,he⟩ | ⟨i,hi,_,hP,he⟩
 rotate_left
 ·rw [he]
  exact ⟨false,rfl,fun h=>(by cases h),fun h=>absurd (h.2.1 i hi) hP⟩
 rw [he]
 simp only [f7,Zj]
 rcases cH (f:=ir (c,e,s,acc)) s.1.length (by omega) (fun k=>jb c s k=true) (fun _=>false)
  (fun i hi _=>by
   unfold ir
   simp only [aq (show (i:Int)<(s.1.length:Int) by omega),f9,bG (fW hi),f7,Zj,afE hc hs hi,aW (n:=s.1.length) (by omega) hi]
   grind)
  (fun _=>by unfold ir; grind) with ⟨hS,he⟩ | ⟨i,hi,_,hP,he⟩
 rotate_left
 ·rw [he]
  exact ⟨false,rfl,fun h=>(by cases h),fun h=>absurd (h.2.2.1 i hi) hP⟩
 rw [he]
 simp only [f7,Zj,UW c e s [] hn]
 exact ⟨_,rfl,fun h=>⟨h1,hO,hS,by simpa using h⟩,fun h=>by simpa using h.2.2.2⟩
theorem WS (hc:bc c)  (hs:StOk c s) (hsm:cU s) : ∃ b,lG c s=some b∧(b=true↔qx c s):=by
 unfold lG
 have hn:=hs.n
 rw [nf (show (s.2.1.length:Int)=c.2.2.2.1.length by rw [hs.fit.vars]),nf (show (s.2.2.1.length:Int)=c.2.2.2.2.1.length by rw [hs.fit.qs]),nf (show (s.2.2.2.1.length:Int)=c.2.2.2.2.2.1.length by rw [hs.fit.own]),nf (show (s.2.2.2.2.1.length:Int)=c.2.2.2.2.2.2.1.length by rw [hs.fit.files])]
 simp only [no,oN]
 by_cases h1:1≤s.1.length∧s.1.length≤65
 rotate_left
 ·rw [aq (by omega)]
  exact ⟨false,rfl,fun h=>(by cases h),fun h=>absurd h.1 h1⟩
 rw [aE (by omega)]
 simp only [no]
 have l1:Itr.it (fk c s) 0=some (.inl ()):=by
  rcases cH (f:=fk c s) s.2.2.1.length (by have:=hsm.2.2.2.1; omega) (fun _=>True) (fun _=>false)
   (fun i hi _=>by
    left
    refine ⟨trivial,?_⟩
    unfold fk
    have hq:=hs.fit.qs
    have hcap:=hs.cap i (by omega)
    simp only [aq (show (i:Int)<(s.2.2.1.length:Int) by omega),f9,aB [] hi,aB ([],0) (show i<c.2.2.2.2.1.length by omega),f7,aE (show ¬ (c.2.2.2.2.1.getD i ([],0)).2<((s.2.2.1.getD i []).length:Int) by omega),no,aW (n:=s.2.2.1.length) (by have:=hsm.2.2.2.1; omega) hi])
   (fun _=>by unfold fk; grind) with ⟨_,he⟩ | ⟨i,_,_,hP,_⟩
  ·exact he
  grind
 rw [l1]
 simp only [f7,Zj]
 have ho:=hsm.2.2.2.2.2.1
 rcases cH (f:=gX s) s.2.2.2.1.length (by omega) (kY s) (fun _=>false)
  (fun i hi _=>by
   unfold gX
   dsimp only
   simp only [aq (show (i:Int)<(s.2.2.2.1.length:Int) by omega),f9,aB 0 hi,f7,Zj,aW (n:=s.2.2.2.1.length) (by omega) hi]
   by_cases hz:s.2.2.2.1.getD i 0 < -1
   ·right
    rw [aq hz]
    exact ⟨by unfold kY; omega,rfl⟩
   rw [aE hz]
   simp only [Xo,f9,no,f7,Zj]
   by_cases h:kY s i
   ·left
    have h' := h
    unfold kY at h'
    grind
   ·right
    have h' := h
    unfold kY at h'
    grind)
  (fun _=>by unfold gX; grind) with ⟨hO,he⟩ | ⟨i,hi,_,hP,he⟩
 rotate_left
 ·rw [he]
  exact ⟨false,rfl,fun h=>(by cases h),fun h=>absurd (h.2.1 i hi) hP⟩
 rw [he]
 simp only [f7,Zj]
 obtain ⟨z,z1,z2⟩:=fw (f:=kK c s) (fun y=>s.1.length - y.2.toNat) (fun y=>∃ k:Nat,y=(cy s k,(k:Int))∧k≤s.1.length∧∀ j,j<k→jb c s j=true)
  (fun r=>(r = .inl (cy s s.1.length)∧∀ j,j<s.1.length→jb c s j=true)∨(r = .inr false∧∃ j,j<s.1.length∧¬ jb c s j=true))
  (fun y hy=>by
   obtain ⟨k,rfl,hk,hj⟩:=hy
   unfold kK
   rcases XJ k s.1.length with hlt | hge
   ·simp only [aq (show (k:Int)<(s.1.length:Int) by omega),f9,bG (fW hlt),f7,Zj,aeZ hc hs hlt,aW (n:=s.1.length) (by omega) hlt]
    cases hb:jb c s k
    ·grind
    ·right
     have hl:=BJ s k
     have hj' : ∀ j,j<k+1→jb c s j=true:=fun j hjk=>by
      grind
     refine ⟨(cy s (k+1),((k+1:Nat):Int)),?_,⟨k+1,rfl,by omega,hj'⟩,by grind⟩
     rw [show cy s (k+1)=if (be s k).2.2.2=true then cy s k else cy s k+1 from rfl]
     cases (be s k).2.2.2
     ·simp only [Xo,XO,f9,no,f7,Zj,Ys,XB,aY (x:=cy s k+1) (by omega) (by omega)]
      rfl
     grind
   grind) (s:=(0,0)) ⟨0,rfl,by omega,fun j hj=>absurd hj (by omega)⟩ (by grind)
 rw [z1]
 rcases z2 with ⟨rfl,hS⟩ | ⟨rfl,j,hj,hP⟩
 ·simp only [f7,Zj]
  exact ⟨_,rfl,fun h=>⟨h1,hO,hS,by simpa using h⟩,fun h=>by simpa using h.2.2.2⟩
 ·exact ⟨false,rfl,fun h=>(by cases h),fun h=>absurd (h.2.2.1 j hj) hP⟩
def Rn (s:aF):Prop:=(0≤s.2.2.2.2.2.1∧s.2.2.2.2.2.1≤1048576)∧(0≤s.2.2.2.2.2.2.1∧s.2.2.2.2.2.2.1≤64)∧0≤s.2.2.2.2.2.2.2.1.1∧0≤s.2.2.2.2.2.2.2.1.2.1∧0≤s.2.2.2.2.2.2.2.1.2.2∧0≤s.2.2.2.2.2.2.2.2.2.2.1
theorem Dy (a b c d:Int):w8 a b c d<0↔a<0∨b<0∨c<0∨d<0:=by
 unfold w8
 grind
theorem MT (hc:bc c)  (hs:StOk c s) (hsm:cU s) (ho : -1≤bj s∧bj s≤4) :
  ∃ v,gA c s=some v∧ma c s=some v∧(v=0→qx c s∧(bj s<0→0<(dB c s).length∧(s.2.2.2.2.2.2.2.2.1 = -1∨s.2.2.2.2.2.2.2.2.1∈dB c s))):=by
 obtain ⟨j,k,err,v1,v2,v3⟩:=tU c hc.2.2.2
 have herr:err=0:=by
  rcases v3 with ⟨h,_⟩ | ⟨_,h,_⟩ | ⟨_,_,h,_⟩ | ⟨_,_,_,h⟩
  ·have:=hc.1; omega
  ·exact absurd hc.2.1 h
  ·exact absurd hc.2.2.1 h
  ·exact h
 subst herr
 unfold gA ma
 dsimp only
 rw [v1,v2]
 obtain ⟨b1,p1,p2⟩:=xN hc (0,0,0) [] hs hsm
 obtain ⟨b2,r1,r2⟩:=WS hc hs hsm
 have hb:b1=b2:=by grind
 subst hb
 simp only [f7,Zj,Zh,no,lm s hsm,p1,r1]
 cases b1
 ·simp_all
 have hsh:=p2.1 rfl
 unfold bj at ho
 have ew:ad (s.2.2.2.2.2.2.2.2.2.1+1)=s.2.2.2.2.2.2.2.2.2.1+1:=aY (by omega) (by omega)
 simp only [XO,Xo,f9,no,jR,l7,oN,f7,Zj,ew]
 by_cases hg:Rn s
 rotate_left
 ·refine ⟨1,?_,?_,fun h=>(by cases h)⟩
  ·unfold Rn at hg
   by_cases c1:0≤s.2.2.2.2.2.1∧s.2.2.2.2.2.1≤1048576
   ·rw [aq c1]
    simp only [XO,Xo,f9,no,f7,Zj]
    by_cases c2:0≤s.2.2.2.2.2.2.1∧s.2.2.2.2.2.2.1≤64
    ·rw [aq c2]
     simp only [XO,no]
     rw [aq ((Dy _ _ _ _).2 (by omega))]
     rfl
    grind
   grind
  ·unfold Rn at hg
   grind
 obtain ⟨g1,g2,g3,g4,g5,g6⟩:=hg
 rw [aq g1,aq g2,aE (show ¬ w8 s.2.2.2.2.2.2.2.1.1 s.2.2.2.2.2.2.2.1.2.1 s.2.2.2.2.2.2.2.1.2.2 s.2.2.2.2.2.2.2.2.2.2.1<0 by rw [Dy]; omega),aq (show 0≤s.2.2.2.2.2.2.2.2.2.1+1∧s.2.2.2.2.2.2.2.2.2.1+1≤5 by omega)]
 rw [aE (show ¬ (((s.2.2.2.2.2.1<0∨1048576<s.2.2.2.2.2.1)∨s.2.2.2.2.2.2.1<0)∨64<s.2.2.2.2.2.2.1) by omega),aE (show ¬ (((((s.2.2.2.2.2.2.2.1.1<0∨s.2.2.2.2.2.2.2.1.2.1<0)∨s.2.2.2.2.2.2.2.1.2.2<0)∨s.2.2.2.2.2.2.2.2.2.2.1<0)∨s.2.2.2.2.2.2.2.2.2.1 < -1)∨4<s.2.2.2.2.2.2.2.2.2.1) by omega)]
 simp only [XO,Xo,f9,no,f7,Zj]
 by_cases hz:0≤s.2.2.2.2.2.2.2.2.2.1
 ·rw [aq hz]
  simp only [f9]
  cases s.2.2.2.2.2.2.2.2.1 != -1
  ·exact ⟨0,rfl,rfl,fun _=>⟨hsh,fun h=>absurd hz (by unfold bj at h; omega)⟩⟩
  grind
 rw [aE hz]
 have hel:(dB c s).length≤1048576:=agt (nI _ _) hs.n
 simp only [no,oK hc hs,GB hc hs,f7,Zj]
 have h0:ac s.1 0=some (be s 0):=bG (fW hsh.1.1)
 cases hq:(bif bif !(s.2.2.2.2.2.2.2.2.2.2.2==([]:List UInt8)) then true else s.2.2.2.2.2.2.2.2.2.2.1 != (0:Int) then true else s.2.2.2.2.2.2.1==(0:Int))
 rotate_left
 ·simp_all
 simp only [Xo,f9,no,h0,f7,Zj]
 cases (be s 0).2.2.2
 rotate_left
 ·simp_all
 simp only [no]
 by_cases hl:0<(dB c s).length
 rotate_left
 ·simp_all
 rw [bf (show ¬ ((dB c s).length:Int)=0 by omega)]
 simp only [Xo,agB,no]
 by_cases hp:s.2.2.2.2.2.2.2.2.1 = -1
 ·simp_all
 ·rw [nt hp]
  simp only [f9,Ci _ hel,aly _ hel,f7,Zj]
  by_cases hm:s.2.2.2.2.2.2.2.2.1∈dB c s
  ·simp_all
  simp_all
abbrev UD:Type:=Int×Int×Int×List Int
def iz (c:CC) (e:bu) (s:aF) (k:Nat):UD:=
 let x:=dM c (be s k)
 let pc:=(tz (be s k)).1
 if x.1=23 then (1,(k:Int),pc,List.replicate x.2.1.toNat 1)
 else if x.1=19∧(c.2.2.2.2.1.getD x.2.1.toNat ([],0)).2=0∧1<(ee c s x.2.1).length then (2,(k:Int),pc,List.replicate (ee c s x.2.1).length 1)
 else if x.1=24∧0<e.2.2 then (3,(k:Int),pc,[ad (16 - e.2.2),e.2.2])
 else if x.1=26∧0<e.2.1 then (4,(k:Int),pc,[ad (16 - e.2.1),e.2.1])
 else (0,(k:Int),pc,[1])
def uU (c:CC) (s:aF):Int:=if s.2.2.2.2.2.2.2.2.1<0 then (dB c s).getD 0 0 else s.2.2.2.2.2.2.2.2.1
def eN (c:CC) (e:bu) (s:aF):UD:=
 if s.2.2.2.2.2.2.2.2.1<0∧1<(dB c s).length then (0,-1,-1,List.replicate (dB c s).length 1) else iz c e s (uU c s).toNat
theorem B2 {n:Nat} {p:Nat→Bool} {x:Int}:x∈rk n p↔∃ k,k<n∧p k=true∧x=(k:Int):=by
 unfold rk
 grind
structure GoOn (c:CC) (s:aF):Prop where
 ok:StOk c s
 n:s.1.length≤65
 en:0<(dB c s).length
 pk:s.2.2.2.2.2.2.2.2.1 = -1∨s.2.2.2.2.2.2.2.2.1∈dB c s
theorem yW (h:GoOn c s) : ∃ k:Nat,uU c s=(k:Int)∧k<s.1.length∧vh c s k=true:=by
 have hm:uU c s∈dB c s:=by
  unfold uU
  split
  ·exact dv 0 h.en
  ·rcases h.pk with hp | hp
   ·omega
   ·exact hp
 obtain ⟨k,h1,h2,h3⟩:=B2.1 hm
 grind
theorem zC (hs:StOk c s)  (hk:k<s.1.length) (h:vh c s k=true) : ∃ fs f st w,be s k=(fs++[f],st,w,false)∧Run1 c fs f st:=by
 rcases j8 hs hk with ⟨h1,h2⟩ | ⟨h1,h2⟩
 ·unfold vh at h
  grind
 ·exact h2
theorem Ei {f:FR→Option (FR⊕UD)} (n:Nat) (hn:n≤1000) (a b d:Int) (hstep : ∀ i,i<n→∀ l:List Int,aK l.length 1 8=true→f ((i:Int),a,b,d,l)=some (.inl ((i:Int)+1,a,b,d,l++[1]))) (hend : ∀ l,f ((n:Int),a,b,d,l)=some (.inr (a,b,d,l))) :
  Itr.it f (0,a,b,d,[])=some (a,b,d,List.replicate n 1):=
 dc (f:=f) (fun y=>n - y.1.toNat) (fun _=>(a,b,d,List.replicate n 1)) (fun y=>∃ i:Nat,y=((i:Int),a,b,d,List.replicate i 1)∧i≤n)
  (fun y hy=>by
   obtain ⟨i,rfl,hi⟩:=hy
   rcases XJ i n with hlt | hge
   ·right
    refine ⟨(((i+1:Nat):Int),a,b,d,List.replicate (i+1) 1),?_,⟨i+1,rfl,by omega⟩,by grind,rfl⟩
    rw [hstep i hlt _ (ba (by grind) (by omega)),afz]
    rfl
   grind) (s:=(0,a,b,d,[])) ⟨0,rfl,by omega⟩ (by grind)
theorem aau (hc:bc c) (e:bu)  (acc:List ((Int×Int×Bool)×Bool)) (hs:StOk c s) (hn:s.1.length≤65)  (hk:k<s.1.length)     (ht:be s k=(fs++[f],st,w,false)) (hr:Run1 c fs f st) :
  kH (c,e,s,acc) (k:Int) f [1]=some (iz c e s k):=by
 unfold kH iz
 have hat:oS (c,e,s,acc) (k:Int)=some (dM c (be s k)):=by
  have h:=Ho (e:=e) (acc:=acc) hs hk []
  unfold kf at h
  rw [if_neg (by rw [ht]; simp)] at h
  exact h
 obtain ⟨p,hpn,hO,hx⟩:=wG hc hs hk (by rw [ht])
 rw [hx] at hO
 have hpc:(tz (be s k)).1=f.1:=by rw [ht,dL]
 dsimp only
 rw [hat,hpc]
 generalize dM c (be s k)=x at *
 obtain ⟨op,u,b⟩:=x
 obtain ⟨o1,o2,o3,o4,o5,o6,o7,o8,o9,o10,o11,o12⟩:=hO
 dsimp only at o1 o2 o3 o4 o5 o6 o7 o8 o9 o10 o11 o12 ⊢
 simp only [f7,Zj]
 by_cases h23:op=23
 ·obtain ⟨g1,g2⟩:=o9 h23
  rw [bt h23,if_pos h23]
  obtain ⟨n,rfl⟩ : ∃ n:Nat,u=(n:Int):=⟨u.toNat,by omega⟩
  simp only [f9,zW (show n<70 by omega),f7,Zj,W4]
 rw [bf h23,if_neg h23]
 simp only [no]
 by_cases h19:op=19
 ·obtain ⟨g1,g2⟩:=o7 (.inl h19)
  have ec:ac c.2.2.2.2.1 u=some (c.2.2.2.2.1.getD u.toNat ([],0)):=aT _ g1 (by omega)
  have hl:(ee c s u).length≤s.1.length:=nI _ _
  rw [bt h19]
  simp only [f9,ec,f7,Zj]
  by_cases hz:(c.2.2.2.2.1.getD u.toNat ([],0)).2=0
  ·rw [bt hz]
   simp only [f9,Ml hs,f7,Zj]
   by_cases h1:1<(ee c s u).length
   ·rw [aq (by omega),if_pos ⟨h19,hz,h1⟩]
    simp only [f9,zW (show (ee c s u).length<70 by omega),f7,Zj]
   grind
  ·rw [bf hz,if_neg (fun h=>hz h.2.1),if_neg (by omega),if_neg (by omega),bf (show ¬ op=24 by omega),bf (show ¬ op=26 by omega)]
   rfl
 rw [bf h19,if_neg (fun h=>h19 h.1)]
 simp only [no,f7,Zj,pW,l7]
 by_cases h24:op=24∧0<e.2.2
 ·grind
 rw [aE h24,if_neg h24]
 simp only [no]
 by_cases h26:op=26∧0<e.2.1
 ·grind
 rw [aE h26,if_neg h26]
 rfl
theorem oZ (hc:bc c) (e:bu)  (acc:List ((Int×Int×Bool)×Bool)) (h:GoOn c s):iK (c,e,s,acc)=some (eN c e s):=by
 unfold iK eN
 have hl:(dB c s).length≤s.1.length:=nI _ _
 have hn:=h.n
 obtain ⟨k,w1,w2,w3⟩:=yW h
 obtain ⟨fs,f,st,w,ht,hr⟩:=zC h.ok w2 w3
 have et:ac s.1 (k:Int)=some (fs++[f],st,w,false):=by rw [← ht]; exact bG (fW w2)
 have el:=nX fs f (by have:=hr.n; omega)
 have h1:iG 1=some [1]:=zW (n:=1) (by omega)
 dsimp only
 simp only [oK hc h.ok,f7,Zj]
 have rest:((ac s.1 (k:Int)).bind fun _=>(ac s.1 (k:Int)).bind fun v7=>(ac s.1 (k:Int)).bind fun v8=>(ac v7.1 (ad ((v8.1.length:Int) - (1:Int)))).bind fun _=>(ac v7.1 (ad ((v8.1.length:Int) - (1:Int)))).bind fun v10=>(iG 1).bind fun r11=>((kH (c,e,s,acc) (k:Int) v10 r11:Option bU)).bind fun s12=>some s12)=some (iz c e s k):=by
  simp only [et,f7,Zj,el,h1,aau hc e acc h.ok h.n w2 ht hr]
 by_cases hp:s.2.2.2.2.2.2.2.2.1<0
 ·by_cases h2:1<(dB c s).length
  ·rw [aq hp,if_pos ⟨hp,h2⟩,aq (by omega)]
   simp only [f9,zW (show (dB c s).length<70 by omega),f7,Zj]
  ·rw [aq hp,if_neg (fun h=>h2 h.2),aE (by omega)]
   have e0:ac (dB c s) 0=some (k:Int):=by
    have:uU c s=(dB c s).getD 0 0:=by unfold uU; rw [if_pos hp]
    rw [← w1,this]
    exact aB 0 h.en
   grind
 ·rw [aE hp,if_neg (fun h=>hp h.1)]
  have:s.2.2.2.2.2.2.2.2.1=(k:Int):=by rw [← w1]; unfold uU; rw [if_neg hp]
  grind
theorem Wk (hc:bc c) (e:bu)  (a:List bI) (hs:StOk c s) (hn:s.1.length≤65)  (hk:k<s.1.length)     (ht:be s k=(fs++[f],st,w,false)) (hr:Run1 c fs f st) :
  gV (dM c (be s k)) (k:Int) f (c,e,s,a)=some (iz c e s k):=by
 unfold gV iz
 obtain ⟨p,hpn,hO,hx⟩:=wG hc hs hk (by rw [ht])
 rw [hx] at hO
 have hpc:(tz (be s k)).1=f.1:=by rw [ht,dL]
 dsimp only
 rw [hpc]
 generalize dM c (be s k)=x at *
 obtain ⟨op,u,b⟩:=x
 obtain ⟨o1,o2,o3,o4,o5,o6,o7,o8,o9,o10,o11,o12⟩:=hO
 dsimp only at o1 o2 o3 o4 o5 o6 o7 o8 o9 o10 o11 o12 ⊢
 by_cases h23:op=23
 ·obtain ⟨g1,g2⟩:=o9 h23
  rw [bt h23,if_pos h23]
  obtain ⟨n,rfl⟩ : ∃ n:Nat,u=(n:Int):=⟨u.toNat,by omega⟩
  simp only [f9,W4]
  have hlp:=Ei (f:=fX (op,((n:Nat):Int),b)) n (by omega) 1 (k:Int) f.1
   (fun i hi l hl=>by
    unfold fX
    simp only [aq (show (i:Int)<(n:Int) by omega),f9,af,Wr,hl,aW (n:=n) (by omega) hi])
   (fun l=>by unfold fX; grind)
  rw [hlp]
 rw [bf h23,if_neg h23]
 simp only [no]
 by_cases h19:op=19
 ·obtain ⟨g1,g2⟩:=o7 (.inl h19)
  have ec:ac c.2.2.2.2.1 u=some (c.2.2.2.2.1.getD u.toNat ([],0)):=aT _ g1 (by omega)
  have hl:(ee c s u).length≤s.1.length:=nI _ _
  rw [bt h19]
  simp only [f9,ec,f7,Zj,IR hs,pW,l7]
  by_cases h1:(c.2.2.2.2.1.getD u.toNat ([],0)).2=0∧1<(ee c s u).length
  ·rw [aq (show (c.2.2.2.2.1.getD u.toNat ([],0)).2=0∧(1:Int)<((ee c s u).length:Int) by omega),if_pos ⟨h19,h1.1,h1.2⟩]
   simp only [f9]
   have hlp:=Ei (f:=fV (ee c s u)) (ee c s u).length (by omega) 2 (k:Int) f.1
    (fun i hi l hl=>by
     unfold fV
     simp only [aq (show (i:Int)<((ee c s u).length:Int) by omega),f9,af,Wr,hl,aW (n:=(ee c s u).length) (by omega) hi])
    (fun l=>by unfold fV; grind)
   rw [hlp]
  ·rw [aE (show ¬ ((c.2.2.2.2.1.getD u.toNat ([],0)).2=0∧(1:Int)<((ee c s u).length:Int)) by omega),if_neg (fun h=>h1 h.2),if_neg (by omega),if_neg (by omega)]
   rfl
 rw [bf h19,if_neg (fun h=>h19 h.1)]
 simp only [no]
 by_cases h24:op=24
 ·rw [bt h24]
  simp only [f9]
  by_cases hz:0<e.2.2
  ·grind
  grind
 rw [bf h24,if_neg (fun h=>h24 h.1)]
 simp only [no]
 by_cases h26:op=26
 ·grind
 grind
theorem wI (hc:bc c) (e:bu)  (a:List bI) (h:GoOn c s):eU (c,e,s,a)=some (eN c e s):=by
 unfold eU eN
 have hl:(dB c s).length≤s.1.length:=nI _ _
 have hn:=h.n
 obtain ⟨k,w1,w2,w3⟩:=yW h
 obtain ⟨fs,f,st,w,ht,hr⟩:=zC h.ok w2 w3
 have et:ac s.1 (k:Int)=some (fs++[f],st,w,false):=by rw [← ht]; exact bG (fW w2)
 have el:=nX fs f (by have:=hr.n; omega)
 have hat:bW (c,e,s,a) (k:Int)=some (dM c (be s k)):=by
  have h:=He (e:=e) (a:=a) h.ok w2
  unfold kf at h
  grind
 simp only [GB hc h.ok,f7,Zj]
 have rest:((ac s.1 (k:Int)).bind fun _=>(ac s.1 (k:Int)).bind fun v9=>(ac v9.1 (ad ((v9.1.length:Int) - (1:Int)))).bind fun _=>(ac v9.1 (ad ((v9.1.length:Int) - (1:Int)))).bind fun v11=>(bW (c,e,s,a) (k:Int)).bind fun r12=>((gV r12 (k:Int) v11 (c,e,s,a):Option bU)).bind fun s13=>some s13)=some (iz c e s k):=by
  simp only [et,f7,Zj,el,hat,Wk hc e a h.ok h.n w2 ht hr]
 by_cases hp:s.2.2.2.2.2.2.2.2.1<0
 ·by_cases h2:1<(dB c s).length
  ·rw [aq hp,if_pos ⟨hp,h2⟩,aq (show (1:Int)<((dB c s).length:Int) by omega)]
   have hlp:=Ei (f:=fZ (dB c s)) (dB c s).length (by omega) 0 (-1) (-1)
    (fun i hi l hl=>by
     unfold fZ
     simp only [aq (show (i:Int)<((dB c s).length:Int) by omega),f9,af,Wr,hl,aW (n:=(dB c s).length) (by omega) hi])
    (fun l=>by unfold fZ; grind)
   grind
  ·rw [aq hp,if_neg (fun h=>h2 h.2),aE (show ¬ (1:Int)<((dB c s).length:Int) by omega)]
   have e0:ac (dB c s) 0=some (k:Int):=by
    have:uU c s=(dB c s).getD 0 0:=by unfold uU; rw [if_pos hp]
    rw [← w1,this]
    exact aB 0 h.en
   simp_all
 ·rw [aE hp,if_neg (fun h=>hp h.1)]
  have:s.2.2.2.2.2.2.2.2.1=(k:Int):=by rw [← w1]; unfold uU; rw [if_neg hp]
  grind
theorem tW (hc:bc c) (e:bu)  (hs:StOk c s) (hsm:cU s) (ho : -1≤bj s∧bj s≤4) : ∃ v,dO c e s=some v∧eY c e s=some v∧(v=0→bj s<0∧GoOn c s∧qx c s):=by
 unfold dO eY
 obtain ⟨v,v1,v2,v3⟩:=MT hc hs hsm ho
 rw [v1,v2]
 simp only [f7,Zj]
 by_cases hv:v=0
 rotate_left
 ·grind
 rw [nf hv]
 obtain ⟨b,b1,b2,b3⟩:=BA e
 simp only [no,b1,b2,f7,Zj]
 cases b
 ·grind
 simp only [XO,no]
 by_cases hz:0≤bj s
 ·have hz' : (0:Int)≤s.2.2.2.2.2.2.2.2.2.1:=hz
  grind
 ·have hz' : ¬ (0:Int)≤s.2.2.2.2.2.2.2.2.2.1:=hz
  rw [aE hz']
  obtain ⟨h1,h2⟩:=v3 hv
  obtain ⟨h3,h4⟩:=h2 (by omega)
  exact ⟨0,rfl,rfl,fun _=>⟨by omega,⟨hs,h1.1.2,h3,h4⟩,h1⟩⟩
theorem yw (hc:bc c) (e:bu)  (hs:StOk c s) (hsm:cU s) (ho : -1≤bj s∧bj s≤4) : ∃ p v,eA c e s=some (p,v)∧iN c e s=some (p,v)∧p.2.2.2.length≤70:=by
 unfold eA iN
 obtain ⟨v,v1,v2,v3⟩:=tW hc e hs hsm ho
 rw [v1,v2]
 simp only [f7,Zj]
 by_cases hv:v=0
 rotate_left
 ·rw [nt hv]
  grind
 obtain ⟨h1,h2,h3⟩:=v3 hv
 rw [nf hv]
 simp only [no,lm s hsm,f7,Zj,oZ hc e [] h2,wI hc e [] h2]
 refine ⟨_,0,rfl,rfl,?_⟩
 have hn:=h2.n
 have hl:(dB c s).length≤s.1.length:=nI _ _
 unfold eN
 split
 ·grind
 ·obtain ⟨k,w1,w2,w3⟩:=yW h2
  obtain ⟨fs,f,st,w,ht,hr⟩:=zC h2.ok w2 w3
  obtain ⟨p,hpn,hO,hx⟩:=wG hc h2.ok w2 (by rw [ht])
  rw [hx] at hO
  rw [w1,W4]
  have hrl : ∀ u,(ee c s u).length≤s.1.length:=fun u=>nI _ _
  unfold iz
  dsimp only
  split
  ·rename_i h23
   obtain ⟨g1,g2⟩:=hO.2.2.2.2.2.2.2.2.1 h23
   grind
  grind
abbrev Bq:Type:=List Int×List (List Int)×List Int×List Int×Int×Int×(Int×Int×Int)×Int×Int×Int×List UInt8
def dH (i:Nat) (f:Fr) (st:List Int) (x:bu) (k:Int) (r:Bq):List bI×Bool×List Int×List Int×Bq:=
 let st1:=st.take (st.length - 1)
 let v:=st.getD (st.length - 1) 0
 if x.1=16 then (if 16≤st.length then ([(0,x.2.1,false)],false,f.2,st,r) else ([(0,x.2.1,false)],true,f.2,st++[r.1.getD x.2.1.toNat 0],r))
 else if x.1=17 then (if st.length=0 then ([(0,x.2.1,true)],false,f.2,st,r) else ([(0,x.2.1,true)],true,f.2,st1,(r.1.set x.2.1.toNat v,r.2)))
 else if x.1=20 then ([(1,x.2.1,true)],true,f.2.set x.2.2.toNat ((r.2.1.getD x.2.1.toNat []).getD 0 0),st,(r.1,r.2.1.set x.2.1.toNat ((r.2.1.getD x.2.1.toNat []).drop 1),r.2.2))
 else if x.1=21 then ([(2,x.2.1,true)],true,f.2,st,(r.1,r.2.1,r.2.2.1.set x.2.1.toNat (i:Int),r.2.2.2))
 else if x.1=22 then ([(2,x.2.1,true)],r.2.2.1.getD x.2.1.toNat 0==(i:Int),f.2,st,(r.1,r.2.1,r.2.2.1.set x.2.1.toNat (-1),r.2.2.2))
 else if x.1=23 then ([],true,f.2.set x.2.2.toNat k,st,r)
 else if x.1=24 then ([(4,0,k==1)],true,f.2.set x.2.1.toNat (ad (r.2.2.2.2.1+k)),st,(r.1,r.2.1,r.2.2.1,r.2.2.2.1,ad (r.2.2.2.2.1+k),r.2.2.2.2.2))
 else if x.1=25 then ([(4,0,false)],true,f.2,st,r)
 else if x.1=26 then (if st.length=0 then ([(3,x.2.1,true)],false,f.2,st,r) else if k=0 then ([(3,x.2.1,true)],true,f.2,st1,(r.1,r.2.1,r.2.2.1,r.2.2.2.1.set x.2.1.toNat v,r.2.2.2.2)) else ([(3,x.2.1,true)],true,f.2,st1,r))
 else ([(3,x.2.1,false)],true,f.2.set x.2.2.toNat (r.2.2.2.1.getD x.2.1.toNat 0),st,r)
def nU (s:aF) (i:Nat) (fs:List Fr) (f:Fr) (st:List Int) (w:Int) (x:bu) (k:Int):aF:=
 let q:=dH i f st x k s.2
 (s.1.set i (fs++[(f.1,q.2.2.1)],q.2.2.2.1,w,false),q.2.2.2.2)
theorem wE (h:s.1[i]? = some t):(s.1.set i t,s.2)=s:=by rw [gG h]
def f0 (op:Int):Prop:=op=16∨op=17∨op=20∨op=21∨op=22∨op=23∨op=24∨op=25∨op=26∨op=27
theorem akA (hc:bc c)           (h:AtP c s i fs f st w x k pc) (hf:Fit1 c s) (hop:f0 x.1) (hq:x.1=20→0<(s.2.2.1.getD x.2.1.toNat []).length) (j:Int) :
  db x (c,e,s,acc) (i:Int) j=some (.inl ((dH i f st x j s.2).2.1,(fl 0 (c,e,nU s i fs f st w x j,(dH i f st x j s.2).1.foldl cB acc)).2)):=by
 obtain ⟨ht,hn,hm,hpc1,hpc2,hpr,hlo,hx⟩:=h
 have hF:=hc.2.2.1 k pc hpc2 hpr
 rw [hx] at hF
 obtain ⟨⟨h0,_⟩,_,hO⟩:=hF
 have et:=bG ht
 have efr : ∀ g:Fr,ac (fs++[g]) (fs.length:Int)=some g:=fun g=>by simp [ac]
 have esa:=gG ht
 have ela : ∀ g:Fr,((fs++[g]).length:Int)=(fs.length:Int)+1:=fun g=>by simp
 have ewl:ad ((fs.length:Int)+1 - 1)=(fs.length:Int):=by rw [aY (by omega) (by omega)]; omega
 have edl:decide (0≤(fs.length:Int)∧(fs.length:Int)<(fs.length:Int)+1 - 0)=true:=aq (by omega)
 obtain ⟨op,a,b⟩:=x
 obtain ⟨fv,fq,fo,ff⟩:=hf
 unfold db nU dH
 have ew1:ad ((st.length:Int) - 1)=(st.length:Int) - 1:=aY (by omega) (by omega)
 have eto1:((st.length:Int) - 1).toNat=st.length - 1:=by omega
 have po : ¬ st.length=0→ac st ((st.length:Int) - 1)=some (st.getD (st.length - 1) 0):=fun hv=>by rw [aT 0 (by omega) (by omega),eto1]
 have pu : ∀ v:Int,aK st.length ([v]:List Int).length 8=true:=fun v=>ba (by grind) (by omega)
 obtain ⟨o1,o2,o3,o4,o5,o6,o7,o8,o9,o10,o11,o12⟩:=hO
 dsimp only at hop h0 o1 o2 o3 o4 o5 o6 o7 o8 o9 o10 o11 o12 hq ⊢
 rcases hop with h | h | h | h | h | h | h | h | h | h
 ·subst h
  obtain ⟨g1,g2⟩:=o6 (.inl rfl)
  have ei:ac s.2.1 a=some (s.2.1.getD a.toNat 0):=aT 0 g1 (by omega)
  simp only [et,ei,f7,Zj,W9,af,f9,Int.reduceBEq,no,Xa,W4,pu,esa]
  by_cases hv:16≤st.length
  ·rw [aq (show (16:Int)≤(st.length:Int) by omega),if_pos hv,wE ht]
   rfl
  ·rw [aE (show ¬ (16:Int)≤(st.length:Int) by omega),if_neg hv]
   rfl
 ·subst h
  obtain ⟨g1,g2⟩:=o6 (.inr rfl)
  have ei:ac s.2.1 a=some (s.2.1.getD a.toNat 0):=aT 0 g1 (by omega)
  simp only [et,ei,f7,Zj,W9,af,f9,Int.reduceBEq,no,Xa,XB,Int.reduceEq,W4,esa,ew1]
  by_cases hv:st.length=0
  ·rw [aq (show (st.length:Int) - 1<0 by omega),if_pos hv,wE ht]
   rfl
  ·rw [aE (show ¬ (st.length:Int) - 1<0 by omega),if_neg hv,aq (show 0≤(st.length:Int) - 1∧(st.length:Int) - 1≤st.length by omega)]
   simp only [no,f9,po hv,f7,Zj,eto1]
   rfl
 ·subst h
  obtain ⟨g1,g2⟩:=o7 (.inr rfl)
  obtain ⟨g3,g4⟩:=o12 (.inl rfl)
  have hq:=hq rfl
  have ei:ac s.2.2.1 a=some (s.2.2.1.getD a.toNat []):=aT [] g1 (by omega)
  have ej:ac f.2 b=some (f.2.getD b.toNat 0):=aT 0 g3 (by omega)
  have ek:ac (s.2.2.1.getD a.toNat []) 0=some ((s.2.2.1.getD a.toNat []).getD 0 0):=aT (k:=0) 0 (by omega) (by omega)
  simp only [et,ei,ej,ek,efr,ela,ewl,edl,f7,Zj,W9,af,f9,Int.reduceBEq,no,Xa,XB,Int.reduceEq,W4,cY,ZX]
  rw [aq (show 0≤a∧a<(s.2.2.1.length:Int) - 0 by omega),aq (show (0:Int)≤1∧(1:Int)≤((s.2.2.1.getD a.toNat []).length:Int)∧((s.2.2.1.getD a.toNat []).length:Int)≤((s.2.2.1.getD a.toNat []).length:Int) by omega),agd]
  rfl
 ·subst h
  obtain ⟨g1,g2⟩:=o8 (.inl rfl)
  have ei:ac s.2.2.2.1 a=some (s.2.2.2.1.getD a.toNat 0):=aT 0 g1 (by omega)
  simp only [ei,f7,Zj,af,f9,Int.reduceBEq,no,Xa,XB,Int.reduceEq,esa]
  rfl
 ·subst h
  obtain ⟨g1,g2⟩:=o8 (.inr rfl)
  have ei:ac s.2.2.2.1 a=some (s.2.2.2.1.getD a.toNat 0):=aT 0 g1 (by omega)
  simp only [ei,f7,Zj,af,f9,Int.reduceBEq,no,Xa,XB,Int.reduceEq,esa]
  rfl
 ·subst h
  obtain ⟨g3,g4⟩:=o12 (.inr (.inl rfl))
  have ej:ac f.2 b=some (f.2.getD b.toNat 0):=aT 0 g3 (by omega)
  simp only [et,ej,efr,ela,ewl,edl,f7,Zj,W9,af,f9,Int.reduceBEq,no,Xa,XB,Int.reduceEq,W4,cY,ZX]
  rfl
 ·subst h
  obtain ⟨g3,g4⟩:=o1 (.inr (.inr rfl))
  have ej:ac f.2 a=some (f.2.getD a.toNat 0):=aT 0 g3 (by omega)
  simp only [et,ej,efr,ela,ewl,edl,f7,Zj,W9,af,f9,Int.reduceBEq,no,Xa,XB,Int.reduceEq,W4,cY,ZX]
  rfl
 ·subst h
  simp only [af,f9,Int.reduceBEq,no,Xa,XB,Int.reduceEq,esa]
  rfl
 ·subst h
  obtain ⟨g1,g2⟩:=o11 (.inl rfl)
  have ei:ac s.2.2.2.2.1 a=some (s.2.2.2.2.1.getD a.toNat 0):=aT 0 g1 (by omega)
  simp only [et,ei,f7,Zj,W9,af,f9,Int.reduceBEq,no,Xa,XB,Int.reduceEq,W4,esa,ew1]
  by_cases hv:st.length=0
  ·rw [aq (show (st.length:Int) - 1<0 by omega),if_pos hv,wE ht]
   rfl
  ·rw [aE (show ¬ (st.length:Int) - 1<0 by omega),if_neg hv,aq (show 0≤(st.length:Int) - 1∧(st.length:Int) - 1≤st.length by omega)]
   simp only [no,f9,po hv,f7,Zj,eto1]
   by_cases hj:j=0
   ·rw [bt hj,if_pos hj]
    rfl
   ·rw [bf hj,if_neg hj]
    rfl
 ·subst h
  obtain ⟨g1,g2⟩:=o11 (.inr rfl)
  obtain ⟨g3,g4⟩:=o12 (.inr (.inr rfl))
  have ei:ac s.2.2.2.2.1 a=some (s.2.2.2.2.1.getD a.toNat 0):=aT 0 g1 (by omega)
  have ej:ac f.2 b=some (f.2.getD b.toNat 0):=aT 0 g3 (by omega)
  simp only [et,ei,ej,efr,ela,ewl,edl,f7,Zj,W9,af,f9,Int.reduceBEq,no,XB,Int.reduceEq,W4,cY,ZX]
  rfl
theorem akS (hc:bc c)           (h:AtP c s i fs f st w x k pc) (hf:Fit1 c s) (hop:f0 x.1) (hq:x.1=20→0<(s.2.2.1.getD x.2.1.toNat []).length) (hl : ∀ l∈s.2.2.1,l.length≤1048576) (j:Int) :
  cw x (c,e,s,sd) (i:Int) j=some (.inl ((dH i f st x j s.2).1,(dH i f st x j s.2).2.1,(gM 0 (c,e,nU s i fs f st w x j,sd)).2)):=by
 obtain ⟨ht,hn,hm,hpc1,hpc2,hpr,hlo,hx⟩:=h
 have hF:=hc.2.2.1 k pc hpc2 hpr
 rw [hx] at hF
 obtain ⟨⟨h0,_⟩,_,hO⟩:=hF
 have et:=bG ht
 have efr : ∀ g:Fr,ac (fs++[g]) (fs.length:Int)=some g:=fun g=>by simp [ac]
 have esa:=gG ht
 have ela : ∀ g:Fr,((fs++[g]).length:Int)=(fs.length:Int)+1:=fun g=>by simp
 have ewl:ad ((fs.length:Int)+1 - 1)=(fs.length:Int):=by rw [aY (by omega) (by omega)]; omega
 have edl:decide (0≤(fs.length:Int)∧(fs.length:Int)<(fs.length:Int)+1 - 0)=true:=aq (by omega)
 have epop:=xr (c:=c) (e:=e) (a:=sd) ht (by omega)
 obtain ⟨op,a,b⟩:=x
 obtain ⟨fv,fq,fo,ff⟩:=hf
 unfold cw nU dH
 obtain ⟨o1,o2,o3,o4,o5,o6,o7,o8,o9,o10,o11,o12⟩:=hO
 dsimp only at hop h0 o1 o2 o3 o4 o5 o6 o7 o8 o9 o10 o11 o12 hq ⊢
 rcases hop with h | h | h | h | h | h | h | h | h | h
 ·subst h
  obtain ⟨g1,g2⟩:=o6 (.inl rfl)
  have ei:ac s.2.1 a=some (s.2.1.getD a.toNat 0):=aT 0 g1 (by omega)
  simp only [ei,f7,Zj,f9,Int.reduceBEq,no,Xa,zt ht]
  by_cases hv:16≤st.length
  ·rw [if_pos hv,if_pos hv,wE ht]
   rfl
  ·rw [if_neg hv,if_neg hv]
   rfl
 ·subst h
  obtain ⟨g1,g2⟩:=o6 (.inr rfl)
  have ei:ac s.2.1 a=some (s.2.1.getD a.toNat 0):=aT 0 g1 (by omega)
  simp only [epop,f7,Zj,f9,Int.reduceBEq,no,Xa,XB,Int.reduceEq]
  by_cases hv:st.length=0
  ·rw [if_pos hv,if_pos hv,wE ht]
   rfl
  ·rw [if_neg hv,if_neg hv]
   have ei' : ac (bM s i (fs++[f],st.take (st.length - 1),w,false)).2.1 a=some (s.2.1.getD a.toNat 0):=ei
   simp only [f9,ei',f7,Zj]
   rfl
 ·subst h
  obtain ⟨g1,g2⟩:=o7 (.inr rfl)
  obtain ⟨g3,g4⟩:=o12 (.inl rfl)
  have hq:=hq rfl
  have ei:ac s.2.2.1 a=some (s.2.2.1.getD a.toNat []):=aT [] g1 (by omega)
  have ej:ac f.2 b=some (f.2.getD b.toNat 0):=aT 0 g3 (by omega)
  have ek:ac (s.2.2.1.getD a.toNat []) 0=some ((s.2.2.1.getD a.toNat []).getD 0 0):=aT (k:=0) 0 (by omega) (by omega)
  have hlen:(s.2.2.1.getD a.toNat []).length≤1048576:=hl _ (dv [] (by omega))
  simp only [et,ei,ej,ek,efr,ela,ewl,edl,ke ht,f7,Zj,W9,af,f9,Int.reduceBEq,no,Xa,XB,Int.reduceEq,W4,cY,ZX]
  rw [aq (show 0≤a∧a<(s.2.2.1.length:Int) - 0 by omega),aq (show (0:Int)≤1∧(1:Int)≤((s.2.2.1.getD a.toNat []).length:Int)∧((s.2.2.1.getD a.toNat []).length:Int)≤((s.2.2.1.getD a.toNat []).length:Int) by omega),agd,
   ba (by grind) (by omega)]
  rfl
 ·subst h
  obtain ⟨g1,g2⟩:=o8 (.inl rfl)
  have ei:ac s.2.2.2.1 a=some (s.2.2.2.1.getD a.toNat 0):=aT 0 g1 (by omega)
  simp only [ei,f7,Zj,f9,Int.reduceBEq,no,Xa,XB,Int.reduceEq,esa]
  rfl
 ·subst h
  obtain ⟨g1,g2⟩:=o8 (.inr rfl)
  have ei:ac s.2.2.2.1 a=some (s.2.2.2.1.getD a.toNat 0):=aT 0 g1 (by omega)
  simp only [ei,f7,Zj,f9,Int.reduceBEq,no,Xa,XB,Int.reduceEq,esa]
  rfl
 ·subst h
  obtain ⟨g3,g4⟩:=o12 (.inr (.inl rfl))
  have ej:ac f.2 b=some (f.2.getD b.toNat 0):=aT 0 g3 (by omega)
  simp only [et,ej,efr,ela,ewl,edl,ke ht,f7,Zj,W9,af,f9,Int.reduceBEq,no,Xa,XB,Int.reduceEq,W4,cY,ZX]
  rfl
 ·subst h
  obtain ⟨g3,g4⟩:=o1 (.inr (.inr rfl))
  have ej:ac f.2 a=some (f.2.getD a.toNat 0):=aT 0 g3 (by omega)
  simp only [et,ej,efr,ela,ewl,edl,ke ht,f7,Zj,W9,af,f9,Int.reduceBEq,no,Xa,XB,Int.reduceEq,W4,cY,ZX]
  rfl
 ·subst h
  simp only [f9,Int.reduceBEq,no,Xa,XB,Int.reduceEq,esa]
  rfl
 ·subst h
  obtain ⟨g1,g2⟩:=o11 (.inl rfl)
  have ei:ac s.2.2.2.2.1 a=some (s.2.2.2.2.1.getD a.toNat 0):=aT 0 g1 (by omega)
  simp only [epop,f7,Zj,f9,Int.reduceBEq,no,Xa,XB,Int.reduceEq]
  by_cases hv:st.length=0
  ·rw [if_pos hv,if_pos hv,wE ht]
   rfl
  ·rw [if_neg hv,if_neg hv]
   have ei' : ac (bM s i (fs++[f],st.take (st.length - 1),w,false)).2.2.2.2.1 a=some (s.2.2.2.2.1.getD a.toNat 0):=ei
   by_cases hj:j=0
   ·rw [if_pos hj]
    simp only [f9,bt hj,ei',f7,Zj]
    rfl
   ·rw [if_neg hj]
    simp only [f9,bf hj,no]
    rfl
 ·subst h
  obtain ⟨g1,g2⟩:=o11 (.inr rfl)
  obtain ⟨g3,g4⟩:=o12 (.inr (.inr rfl))
  have ei:ac s.2.2.2.2.1 a=some (s.2.2.2.2.1.getD a.toNat 0):=aT 0 g1 (by omega)
  have ej:ac f.2 b=some (f.2.getD b.toNat 0):=aT 0 g3 (by omega)
  simp only [et,ei,ej,efr,ela,ewl,edl,ke ht,f7,Zj,W9,af,f9,Int.reduceBEq,no,XB,Int.reduceEq,W4,cY,ZX]
  rfl
theorem aja (hn:s.1.length≤1048576):Itr.it (eB (c,e,s,sd)) (0,0)=some (cy s s.1.length):=
 dc (f:=eB (c,e,s,sd)) (fun y=>s.1.length - y.2.toNat) (fun _=>cy s s.1.length) (fun y=>∃ k:Nat,y=(cy s k,(k:Int))∧k≤s.1.length)
  (fun y hy=>by
   obtain ⟨k,rfl,hk⟩:=hy
   rcases XJ k s.1.length with hlt | hge
   ·right
    refine ⟨(cy s (k+1),((k+1:Nat):Int)),?_,⟨k+1,rfl,by omega⟩,by grind,rfl⟩
    have hl:=BJ s k
    rw [show cy s (k+1)=if (be s k).2.2.2=true then cy s k else cy s k+1 from rfl]
    unfold eB
    simp only [aq (show (k:Int)<(s.1.length:Int) by omega),f9,bG (fW hlt),f7,Zj,aW (n:=s.1.length) (by omega) hlt]
    cases (be s k).2.2.2
    ·simp only [Xo,f9,f7,Zj,Ys,XB,aY (x:=cy s k+1) (by omega) (by omega)]
     rfl
    grind
   ·left
    have:k=s.1.length:=by omega
    subst this
    unfold eB
    grind) (s:=(0,0)) ⟨0,rfl,by omega⟩ (by grind)
def rL (c:CC) (p:Int):Th:=([(c.2.1.getD p.toNat 0,List.replicate (c.2.2.1.getD p.toNat 0).toNat 0)],[],0,false)
def oB (s:aF) (i:Nat) (fs:List Fr) (f:Fr) (st:List Int) (w:Int):aF:=bM s i (fs++[(ad (f.1+1),f.2)],st,w,false)
abbrev rY:Type:=List Int×List bI×Bool×aF
def ni (c:CC) (s:aF) (i:Nat) (fs:List Fr) (f:Fr) (st:List Int) (w:Int) (p:Int):rY:=
 if 5≤cy s s.1.length then ([],[(5,0,true)],false,s)
 else ([(s.1.length:Int),(i:Int)],[(5,0,true),(5,(s.1.length:Int)+1,true)],true,((oB s i fs f st w).1++[rL c p],(oB s i fs f st w).2))
theorem BR {n:Nat} (h:n≤1048576):gL (n:Int)=some (5,(n:Int)+1,true):=by
 unfold gL
 rw [Int.add_comm,aY (by omega) (by omega)]
theorem alm (hc:bc c)           (h:AtP c s i fs f st w x k pc) (hop:x.1=18) (hn:s.1.length≤1048575) :
  mb (c,e,s,acc) (i:Int) x.2.1=some ((ni c s i fs f st w x.2.1).1,(ni c s i fs f st w x.2.1).2.2.1,(c,e,(ni c s i fs f st w x.2.1).2.2.2,(ni c s i fs f st w x.2.1).2.1.foldl cB acc)):=by
 obtain ⟨ht,hnf,hm,hpc1,hpc2,hpr,hlo,hx⟩:=h
 have hF:=hc.2.2.1 k pc hpc2 hpr
 rw [hx] at hF
 obtain ⟨⟨h0,_⟩,_,hO⟩:=hF
 have et:=bG ht
 have efr : ∀ g:Fr,ac (fs++[g]) (fs.length:Int)=some g:=fun g=>by simp [ac]
 have ela : ∀ g:Fr,((fs++[g]).length:Int)=(fs.length:Int)+1:=fun g=>by simp
 have ewl:ad ((fs.length:Int)+1 - 1)=(fs.length:Int):=by rw [aY (by omega) (by omega)]; omega
 obtain ⟨op,a,b⟩:=x
 obtain ⟨o1,o2,o3,o4,o5,o6,o7,o8,o9,o10,o11,o12⟩:=hO
 obtain ⟨hl512,hLi,hAF,hSm⟩:=hc
 obtain ⟨g1,g2⟩:=o3 (.inr hop)
 have ei:ac c.2.1 a=some (c.2.1.getD a.toNat 0):=aT 0 g1 g2
 have ej:ac c.2.2.1 a=some (c.2.2.1.getD a.toNat 0):=aT 0 g1 (by have:=hLi.1.2.1; grind)
 obtain ⟨_,_,_,_,q5,q6⟩:=hLi.2.2.1 a.toNat (by grind)
 have hi:=cK ht
 unfold mb ni
 dsimp only
 have ea:(cR ae (.sc .bool) (5,0,false) (bif (du ae (.sc .bool) (5,0,false) acc).getD false then true else true) acc)=cB acc (5,0,true):=rfl
 rw [ea]
 simp only [UW c e s (cB acc (5,0,true)) (by omega),f7,Zj]
 by_cases h5:5≤cy s s.1.length
 ·grind
 ·rw [if_neg h5,aE (by omega)]
  have ewl2:ad (((fs.length+1:Nat):Int) - 1)=(fs.length:Int):=by grind
  have ewn:ad (((s.1.length+1:Nat):Int) - 1)=(s.1.length:Int):=by rw [aY (by omega) (by omega)]; omega
  have ewm:ad (1+(s.1.length:Int))=(s.1.length:Int)+1:=by rw [aY (by omega) (by omega)]; omega
  have eml:decide (0≤c.2.2.1.getD a.toNat 0∧c.2.2.1.getD a.toNat 0 * 8≤281474976710656∧c.2.2.1.getD a.toNat 0≤maxLen)=true:=aq (by refine ⟨q5,by omega,?_⟩; simp only [maxLen]; omega)
  have a1:aK s.1.length 1 64=true:=ba (by omega) (by omega)
  simp only [no,et,ei,ej,f7,Zj,efr,W9,ZX,af,f9,W4,cY,Wu,Y4,Wr,ewl2,ewn,ewm,eml,a1,
   aq (show (0:Int)≤(i:Int)∧(i:Int)<(s.1.length:Int) - 0 by omega)]
  rfl
theorem alk (hc:bc c)           (h:AtP c s i fs f st w x k pc) (hop:x.1=18) (hn:s.1.length≤1048575) :
  jv (c,e,s,sd) (i:Int) x.2.1=some ((ni c s i fs f st w x.2.1).1,(ni c s i fs f st w x.2.1).2.1,(ni c s i fs f st w x.2.1).2.2.1,(c,e,(ni c s i fs f st w x.2.1).2.2.2,sd)):=by
 obtain ⟨ht,hnf,hm,hpc1,hpc2,hpr,hlo,hx⟩:=h
 have hF:=hc.2.2.1 k pc hpc2 hpr
 rw [hx] at hF
 obtain ⟨⟨h0,_⟩,_,hO⟩:=hF
 obtain ⟨op,a,b⟩:=x
 obtain ⟨o1,o2,o3,o4,o5,o6,o7,o8,o9,o10,o11,o12⟩:=hO
 obtain ⟨hl512,hLi,hAF,hSm⟩:=hc
 obtain ⟨g1,g2⟩:=o3 (.inr hop)
 have ei:ac c.2.1 a=some (c.2.1.getD a.toNat 0):=aT 0 g1 g2
 have ej:ac c.2.2.1 a=some (c.2.2.1.getD a.toNat 0):=aT 0 g1 (by have:=hLi.1.2.1; grind)
 obtain ⟨_,_,_,_,q5,q6⟩:=hLi.2.2.1 a.toNat (by grind)
 have hi:=cK ht
 unfold jv ni
 dsimp only
 simp only [aja (show s.1.length≤1048576 by omega),f7,Zj]
 by_cases h5:5≤cy s s.1.length
 ·grind
 ·rw [if_neg h5,aE (by omega)]
  have ewn:ad (((s.1.length+1:Nat):Int) - 1)=(s.1.length:Int):=by rw [aY (by omega) (by omega)]; omega
  have eml:decide (0≤c.2.2.1.getD a.toNat 0∧c.2.2.1.getD a.toNat 0 * 8≤281474976710656∧c.2.2.1.getD a.toNat 0≤maxLen)=true:=aq (by refine ⟨q5,by omega,?_⟩; simp only [maxLen]; omega)
  have epl : ∀ t,(bM s i t).1.length=s.1.length:=fun t=>by unfold bM; simp
  have a1:aK s.1.length 1 64=true:=ba (by omega) (by omega)
  have a2:aK 1 1 24=true:=ba (by omega) (by omega)
  simp only [no,lY (c:=c) (e:=e) (a:=sd) ht (by omega),ei,ej,f7,Zj,af,f9,Wu,Wr,epl,ewn,eml,a1,a2,BR (show s.1.length≤1048576 by omega)]
  rfl
theorem uc (hi:i<s.1.length):be (bM s i t) i=t:=by
 unfold be bM
 simp [hi]
theorem nj {q:Nat}  (h:q≠i):be (bM s i t) q=be s q:=by
 unfold be bM
 grind
theorem cD :(bM s i t).1.length=s.1.length:=by unfold bM; simp
theorem Lp {fr:List Fr} {st':List Int}  {b:Bool} (ht:s.1[i]? = some (fr,st,w,b)) (ch:Int):ee c (bM s i (fr,st',w,b)) ch=ee c s ch:=by
 unfold ee
 rw [cD]
 congr 1
 funext q
 unfold By
 by_cases h:q=i
 ·subst h
  rw [uc (cK ht),d8 ht]
  rfl
 ·rw [nj h]
theorem JX (hs:StOk c s)   (ht:Si c t):StOk c (bM s i t):=
 ⟨by rw [cD]; exact hs.n,fun u hu=>by
  rcases aao hu with h | h
  ·exact hs.th u h
  grind,⟨hs.fit.vars,hs.fit.qs,hs.fit.own,hs.fit.files⟩,hs.cap⟩
def gk (c:CC) (s:aF) (i:Nat) (fs:List Fr) (f:Fr) (st:List Int) (w:Int) (a j:Int):rY:=
 if st.length=0 then ([],[(1,a,true)],false,s)
 else
  let v:=st.getD (st.length - 1) 0
  let s1:=bM s i (fs++[(ad (f.1+1),f.2)],st.take (st.length - 1),w,false)
  if 0<(c.2.2.2.2.1.getD a.toNat ([],0)).2 then ([(i:Int)],[(1,a,true)],true,(s1.1,s1.2.1,s1.2.2.1.set a.toNat (s.2.2.1.getD a.toNat []++[v]),s1.2.2.2))
  else
   let to:=(ee c s a).getD j.toNat 0
   let t:=be s to.toNat
   ([to,(i:Int)],[(1,a,true),(5,to+1,true)],true,bM s1 to.toNat (t.1.dropLast++[(ad ((tz t).1+1),(tz t).2.set (dM c t).2.2.toNat v)],t.2))
structure Takes (c:CC) (s:aF) (i q:Nat) (gs:List Fr) (g:Fr) (tt:List Int) (tw:Int) (y:bu):Prop where
 t:s.1[q]? = some (gs++[g],tt,tw,false)
 ne:q≠i
 n:gs.length<8
 pc:ac c.1 g.1=some y
 yi:y=dM c (be s q)
 lo:ac g.2 y.2.2=some (g.2.getD y.2.2.toNat 0)
 run:Run1 c gs g tt
 at_ : ∃ k pc,AtP c s q gs g tt tw y k pc
 op:y.1=20
theorem xe (hc:bc c)  (hs:StOk c s)        (h:AtP c s i fs f st w x k pc) (hop:x.1=19)  (hj:0≤j∧j<(ee c s x.2.1).length) :
  ∃ q gs g tt tw y,(ee c s x.2.1).getD j.toNat 0=((q:Nat):Int)∧q<s.1.length∧Takes c s i q gs g tt tw y:=by
 have hm:(ee c s x.2.1).getD j.toNat 0∈ee c s x.2.1:=dv 0 (by omega)
 obtain ⟨q,q1,q2,q3⟩:=B2.1 hm
 have hq:(kf c (be s q)).1=20:=by
  unfold By at q2
  grind
 rcases j8 hs q1 with ⟨h1,h2⟩ | ⟨h1,gs,g,tt,tw,h2,h3⟩
 ·unfold kf at hq
  grind
 ·have ht:s.1[q]? = some (gs++[g],tt,tw,false):=by rw [fW q1,h2]
  obtain ⟨p,pc',hA⟩:=gx ht h3
  have hF:=hc.2.2.1 p pc' hA.pc2 hA.pr
  rw [hA.x] at hF
  have hx:kf c (be s q)=cz c g.1.toNat:=by
   rw [h2]
   show dM c (gs++[g],tt,tw,false)=_
   unfold dM
   rw [dL]
  rw [hx] at hq
  obtain ⟨l1,l2⟩:=hF.2.2.2.2.2.2.2.2.2.2.2.2.2 (.inl hq)
  refine ⟨q,gs,g,tt,tw,cz c g.1.toNat,q3,q1,ht,?_,hA.n,?_,?_,aT 0 l1 (by rw [hA.lo]; exact l2),h3,⟨p,pc',hA⟩,hq⟩
  ·rintro rfl
   have e2:=h.t
   rw [ht] at e2
   have e3:gs++[g]=fs++[f]:=by grind
   have e4:g=f:=by simp_all
   rw [e4,h.pc1] at hq
   rw [W4,h.x,hop] at hq
   cases hq
  ·rw [hA.pc1]; exact aB _ hA.pc2
  ·rw [h2]; unfold dM; rw [dL]
theorem ajO (hc:bc c)    (hs:StOk c s) (hl : ∀ l∈s.2.2.1,l.length≤1048575)        (h:AtP c s i fs f st w x k pc) (hop:x.1=19) 
  (hj : ¬ 0<(c.2.2.2.2.1.getD x.2.1.toNat ([],0)).2→0≤j∧j<(ee c s x.2.1).length) :
  nu (c,e,s,acc) (i:Int) j x.2.1=some ((gk c s i fs f st w x.2.1 j).1,(gk c s i fs f st w x.2.1 j).2.2.1,(c,e,(gk c s i fs f st w x.2.1 j).2.2.2,(gk c s i fs f st w x.2.1 j).2.1.foldl cB acc)):=by
 have hA:=h
 obtain ⟨ht,hnf,hm,hpc1,hpc2,hpr,hlo,hx⟩:=h
 have hF:=hc.2.2.1 k pc hpc2 hpr
 rw [hx] at hF
 obtain ⟨⟨h0,_⟩,_,hO⟩:=hF
 have et:=bG ht
 have efr : ∀ g:Fr,ac (fs++[g]) (fs.length:Int)=some g:=fun g=>by simp [ac]
 have esa:=gG ht
 have ela : ∀ g:Fr,((fs++[g]).length:Int)=(fs.length:Int)+1:=fun g=>by simp
 have ewl:ad ((fs.length:Int)+1 - 1)=(fs.length:Int):=by rw [aY (by omega) (by omega)]; omega
 obtain ⟨op,a,b⟩:=x
 obtain ⟨o1,o2,o3,o4,o5,o6,o7,o8,o9,o10,o11,o12⟩:=hO
 obtain ⟨g1,g2⟩:=o7 (.inl hop)
 have ei:ac c.2.2.2.2.1 a=some (c.2.2.2.2.1.getD a.toNat ([],0)):=aT _ g1 g2
 have eq:ac s.2.2.1 a=some (s.2.2.1.getD a.toNat []):=aT [] g1 (by have:=hs.fit.qs; grind)
 have hi:=cK ht
 have ew1:ad ((st.length:Int) - 1)=(st.length:Int) - 1:=aY (by omega) (by omega)
 have eto1:((st.length:Int) - 1).toNat=st.length - 1:=by omega
 unfold nu gk
 dsimp only
 simp only [et,f7,Zj,W9,af,f9,esa,ew1,W4]
 by_cases hv:st.length=0
 ·rw [aq (show (st.length:Int) - 1<0 by omega),if_pos hv]
  rfl
 rw [aE (show ¬ (st.length:Int) - 1<0 by omega),if_neg hv,aq (show 0≤(st.length:Int) - 1∧(st.length:Int) - 1≤st.length by omega)]
 have po:ac st ((st.length:Int) - 1)=some (st.getD (st.length - 1) 0):=by rw [aT 0 (by omega) (by omega),eto1]
 have et1 : ∀ t',ac (s.1.set i t') (i:Int)=some t' := fun t' => bG (Yc hi)
 simp only [no,f9,po,ei,f7,Zj,eto1,XO]
 by_cases hcap:0<(c.2.2.2.2.1.getD a.toNat ([],0)).2
 ·rw [aq hcap,if_pos hcap]
  have hq:(s.2.2.1.getD a.toNat []).length≤1048575:=hl _ (dv [] (by have:=hs.fit.qs; grind))
  have a1:aK (s.2.2.1.getD a.toNat []).length 1 8=true:=ba (by omega) (by omega)
  simp only [f9,et1,eq,f7,Zj,ela,ewl,efr,cY,Wr,a1,ZX,W9,W4,af7,aq (show 0≤a∧a<(s.2.2.1.length:Int) - 0 by have:=hs.fit.qs; grind)]
  rfl
 ·rw [aE hcap,if_neg hcap]
  obtain ⟨q,gs,g,tt,tw,y,w1,w2,w3⟩:=xe hc hs hA hop (hj hcap)
  have hth:Si c (fs++[f],st.take (st.length - 1),w,false):=by
   rcases j8 hs hi with ⟨z1,z2⟩ | ⟨z1,fs',f',st',w',z2,z3⟩
   ·rw [d8 ht] at z1; cases z1
   ·rw [d8 ht] at z2
    injection z2 with z4 z5
    injection z5 with z6 z7
    subst z6
    exact .inr ⟨rfl,fs',f',z4,⟨z3.n,by rw [Xz]; omega,z3.fr⟩⟩
  have er:=Ml (c:=c) (e:=e) (acc:=cB acc (1,a,true)) (JX (s:=s) (i:=i) hs hth) a
  rw [Lp ht] at er
  have er' : dG (c,e,(s.1.set i (fs++[f],st.take (st.length - 1),w,false),s.2),cR ae (.sc .bool) (1,a,false) (bif (du ae (.sc .bool) (1,a,false) acc).getD false then true else true) acc) a=some (ee c s a):=er
  have ej:ac (ee c s a) j=some ((ee c s a).getD j.toNat 0):=aT 0 (hj hcap).1 (hj hcap).2
  rw [w1] at ej
  have eq0:be s q=(gs++[g],tt,tw,false):=d8 w3.t
  have eq1 : ∀ t',ac (s.1.set i t') (q:Int)=some (gs++[g],tt,tw,false):=fun t' => bG (by rw [Zd (agN w3.ne)]; exact w3.t)
  have efr2 : ∀ g:Fr,ac (gs++[g]) (gs.length:Int)=some g:=fun g=>by simp [ac]
  have ela2 : ∀ g:Fr,((gs++[g]).length:Int)=(gs.length:Int)+1:=fun g=>by simp
  have hgn:=w3.n
  have ewl2:ad ((gs.length:Int)+1 - 1)=(gs.length:Int):=by rw [aY (by omega) (by omega)]; omega
  have eq2 : ∀ t' u,ac ((s.1.set i t').set q u) (q:Int)=some u:=fun t' u=>bG (Yc (by grind))
  have ewm:ad (1+(q:Int))=(q:Int)+1:=by have:=hs.n; rw [aY (by omega) (by omega)]; omega
  simp only [no,er',ej,f7,Zj,et1,eq1,eq2,ela,ewl,efr,ela2,ewl2,efr2,cY,W9,f9,ZX,W4,af7,oV,af,w3.pc,w3.lo,aq (show (0:Int)≤(gs.length:Int)∧(gs.length:Int)<(gs.length:Int)+1 - 0 by omega),ewm,w1,eq0,dL,agc]
  have hy:=w3.yi
  rw [eq0] at hy
  rw [← hy]
  rfl
theorem ajG (hc:bc c)    (hs:StOk c s) (hl : ∀ l∈s.2.2.1,l.length≤1048575)        (h:AtP c s i fs f st w x k pc) (hop:x.1=19) 
  (hj : ¬ 0<(c.2.2.2.2.1.getD x.2.1.toNat ([],0)).2→0≤j∧j<(ee c s x.2.1).length) :
  jX (c,e,s,sd) (i:Int) j x.2.1=some ((gk c s i fs f st w x.2.1 j).1,(gk c s i fs f st w x.2.1 j).2.1,(gk c s i fs f st w x.2.1 j).2.2.1,(c,e,(gk c s i fs f st w x.2.1 j).2.2.2,sd)):=by
 have hA:=h
 obtain ⟨ht,hnf,hm,hpc1,hpc2,hpr,hlo,hx⟩:=h
 have hF:=hc.2.2.1 k pc hpc2 hpr
 rw [hx] at hF
 obtain ⟨⟨h0,_⟩,_,hO⟩:=hF
 have epop:=xr (c:=c) (e:=e) (a:=sd) ht (by omega)
 obtain ⟨op,a,b⟩:=x
 obtain ⟨o1,o2,o3,o4,o5,o6,o7,o8,o9,o10,o11,o12⟩:=hO
 obtain ⟨g1,g2⟩:=o7 (.inl hop)
 have ei:ac c.2.2.2.2.1 a=some (c.2.2.2.2.1.getD a.toNat ([],0)):=aT _ g1 g2
 have eq:ac s.2.2.1 a=some (s.2.2.1.getD a.toNat []):=aT [] g1 (by have:=hs.fit.qs; grind)
 have hi:=cK ht
 unfold jX gk
 dsimp only
 simp only [epop,f7,Zj]
 by_cases hv:st.length=0
 ·grind
 rw [if_neg hv,if_neg hv]
 have et1 : ∀ t',(bM s i t').1[i]? = some t' := fun t' => Yc hi
 have en:=lY (c:=c) (e:=e) (a:=sd) (et1 (fs++[f],st.take (st.length - 1),w,false)) (by omega)
 rw [fH] at en
 simp only [no,ei,f7,Zj,XO]
 by_cases hcap:0<(c.2.2.2.2.1.getD a.toNat ([],0)).2
 ·rw [aq hcap,if_pos hcap]
  have hq:(s.2.2.1.getD a.toNat []).length≤1048575:=hl _ (dv [] (by have:=hs.fit.qs; grind))
  have a1:aK (s.2.2.1.getD a.toNat []).length 1 8=true:=ba (by omega) (by omega)
  have a2:aK 0 (s.2.2.1.getD a.toNat []).length 8=true:=ba (by omega) (by omega)
  have eq' : ∀ t',ac (bM s i t').2.2.1 a=some (s.2.2.1.getD a.toNat []):=fun _=>eq
  have ed : ∀ t',decide (0≤a∧a<((bM s i t').2.2.1.length:Int) - 0)=true:=fun t' => aq (by show 0≤a∧a<(s.2.2.1.length:Int) - 0; have:=hs.fit.qs; grind)
  simp only [f9,en,eq',ed,af,f7,Zj,Wr,List.length_nil,Yv,a1,a2,ZX,W9]
 ·rw [aE hcap,if_neg hcap]
  obtain ⟨q,gs,g,tt,tw,y,w1,w2,w3⟩:=xe hc hs hA hop (hj hcap)
  have hth:Si c (fs++[f],st.take (st.length - 1),w,false):=by
   rcases j8 hs hi with ⟨z1,z2⟩ | ⟨z1,fs',f',st',w',z2,z3⟩
   ·rw [d8 ht] at z1; cases z1
   ·rw [d8 ht] at z2
    injection z2 with z4 z5
    injection z5 with z6 z7
    subst z6
    exact .inr ⟨rfl,fs',f',z4,⟨z3.n,by rw [Xz]; omega,z3.fr⟩⟩
  have er:=IR (c:=c) (e:=e) (a:=sd) (JX (s:=s) (i:=i) hs hth) a
  rw [Lp ht] at er
  have ej:ac (ee c s a) j=some ((ee c s a).getD j.toNat 0):=aT 0 (hj hcap).1 (hj hcap).2
  rw [w1] at ej
  have eq0:be s q=(gs++[g],tt,tw,false):=d8 w3.t
  have eq1 : ∀ t',ac (bM s i t').1 (q:Int)=some (gs++[g],tt,tw,false):=fun t' => bG (by unfold bM; rw [Zd (agN w3.ne)]; exact w3.t)
  have efr2 : ∀ g:Fr,ac (gs++[g]) (gs.length:Int)=some g:=fun g=>by simp [ac]
  have ela2 : ∀ g:Fr,((gs++[g]).length:Int)=(gs.length:Int)+1:=fun g=>by simp
  have hgn:=w3.n
  have ewl2:ad ((gs.length:Int)+1 - 1)=(gs.length:Int):=by rw [aY (by omega) (by omega)]; omega
  have ed : ∀ t',decide ((0:Int)≤(q:Int)∧(q:Int)<((bM s i t').1.length:Int) - 0)=true:=fun t' => aq (by rw [cD]; omega)
  have enq : ∀ (t' : Th) (u:List Int),bH (c,e,((bM s i t').1.set q (gs++[(g.1,u)],tt,tw,false),(bM s i t').2),sd) (q:Int)=some (c,e,bM (bM s i t') q (gs++[(ad (g.1+1),u)],tt,tw,false),sd):=fun t' u=>by
   have:=lY (c:=c) (e:=e) (a:=sd) (s:=bM (bM s i t') q (gs++[(g.1,u)],tt,tw,false)) (i:=q) (fs:=gs) (f:=(g.1,u)) (st:=tt) (w:=tw) (b:=false) (Yc (by grind)) (by omega)
   rw [fH] at this
   exact this
  have a3:aK 1 1 24=true:=ba (by omega) (by omega)
  have hz:((gs.length:Int)+1==0)=false:=by grind
  simp only [no,er,ej,f7,Zj,en,eq1,ela2,ewl2,efr2,cY,W9,f9,ZX,W4,ed,pB,af,hz,w3.pc,w3.lo,aq (show (0:Int)≤(gs.length:Int)∧(gs.length:Int)<(gs.length:Int)+1 - 0 by omega),w1,eq0,dL,agc,Wr,a3,enq,BR (show q≤1048576 by have:=hs.n; omega)]
  have hy:=w3.yi
  simp_all
def aiv (s:aF) (o:Int):aF:=(s.1,s.2.1,s.2.2.1,s.2.2.2.1,s.2.2.2.2.1,s.2.2.2.2.2.1,s.2.2.2.2.2.2.1,s.2.2.2.2.2.2.2.1,s.2.2.2.2.2.2.2.2.1,o,s.2.2.2.2.2.2.2.2.2.2)
def oq (s:aF) (i:Nat):rY:=([],[(5,0,true)],true,if i=0 then aiv (bM s i ([],[],0,true)) 0 else bM s i ([],[],0,true))
def kn (s:aF) (i:Nat) (fs:List Fr) (f:Fr) (st:List Int) (w:Int) (x:bu) (j:Int):rY:=
 let q:=dH i f st x j s.2
 ([(i:Int)],q.1,q.2.1,if q.2.1=true then bM (nU s i fs f st w x j) i (fs++[(ad (f.1+1),q.2.2.1)],q.2.2.2.1,w,false) else nU s i fs f st w x j)
instance (op:Int):Decidable (f0 op):=by unfold f0; infer_instance
def cP (c:CC) (s:aF) (i:Nat) (fs:List Fr) (f:Fr) (st:List Int) (w:Int) (x:bu) (j:Int):rY:=
 if x.1=18 then ni c s i fs f st w x.2.1 else if x.1=19 then gk c s i fs f st w x.2.1 j else if f0 x.1 then kn s i fs f st w x j else oq s i
structure CanDo (c:CC) (s:aF) (i:Nat) (fs:List Fr) (f:Fr) (st:List Int) (w:Int) (x:bu) (j:Int):Prop where
 at_ : ∃ k pc,AtP c s i fs f st w x k pc
 ok:StOk c s
 n:s.1.length≤1048575
 qs : ∀ l∈s.2.2.1,l.length≤1048575
 q:x.1=20→0<(s.2.2.1.getD x.2.1.toNat []).length
 to:x.1=19→¬ 0<(c.2.2.2.2.1.getD x.2.1.toNat ([],0)).2→0≤j∧j<(ee c s x.2.1).length
theorem FL {op:Int} (h18:op≠18) (h19:op≠19) (h : ¬ f0 op):op≠16∧op≠17∧op≠20∧op≠21∧op≠22∧op≠23∧op≠24∧op≠25∧op≠26∧op≠27:=by
 unfold f0 at h
 omega
theorem Xr (hc:bc c)           (h:CanDo c s i fs f st w x j) :
  mc (c,e,s,acc) (i:Int) j=some ((cP c s i fs f st w x j).1,(cP c s i fs f st w x j).2.2.1,(c,e,(cP c s i fs f st w x j).2.2.2,(cP c s i fs f st w x j).2.1.foldl cB acc)):=by
 obtain ⟨⟨k,pc,hA⟩,hs,hn,hqs,hq,hto⟩:=h
 have ht:=hA.t
 have hi:=cK ht
 have et:=bG ht
 have efr : ∀ g:Fr,ac (fs++[g]) (fs.length:Int)=some g:=fun g=>by simp [ac]
 have ela : ∀ g:Fr,((fs++[g]).length:Int)=(fs.length:Int)+1:=fun g=>by simp
 have ewl:ad ((fs.length:Int)+1 - 1)=(fs.length:Int):=by have:=hA.n; rw [aY (by omega) (by omega)]; omega
 have e5:oH (c,e,s,acc) (i:Int)=some x:=by
  unfold oH
  have hx:ac c.1 f.1=some x:=by rw [hA.pc1,← hA.x]; exact aB _ hA.pc2
  grind
 unfold mc cP
 simp only [et,e5,f7,Zj]
 by_cases h18:x.1=18
 ·rw [if_pos h18]
  have e2:db x (c,e,s,acc) (i:Int) j=some (.inr ((ni c s i fs f st w x.2.1).1,(ni c s i fs f st w x.2.1).2.2.1,(c,e,(ni c s i fs f st w x.2.1).2.2.2,(ni c s i fs f st w x.2.1).2.1.foldl cB acc))):=by
   unfold db
   have n6:(x.1==(16:Int))=false:=by rw [h18]; rfl
   have n7:(x.1==(17:Int))=false:=by rw [h18]; rfl
   have n8:(x.1==(18:Int))=true:=by rw [h18]; rfl
   simp only [n6,n7,n8,f9,no,alm hc (e:=e) (acc:=acc) hA h18 hn,f7,Zj]
  grind
 rw [if_neg h18]
 by_cases h19:x.1=19
 ·rw [if_pos h19]
  have e2:db x (c,e,s,acc) (i:Int) j=some (.inr ((gk c s i fs f st w x.2.1 j).1,(gk c s i fs f st w x.2.1 j).2.2.1,(c,e,(gk c s i fs f st w x.2.1 j).2.2.2,(gk c s i fs f st w x.2.1 j).2.1.foldl cB acc))):=by
   unfold db
   have n6:(x.1==(16:Int))=false:=by rw [h19]; rfl
   have n7:(x.1==(17:Int))=false:=by rw [h19]; rfl
   have n8:(x.1==(18:Int))=false:=by rw [h19]; rfl
   have n9:(x.1==(19:Int))=true:=by rw [h19]; rfl
   simp only [n6,n7,n8,n9,f9,no,ajO hc (e:=e) (acc:=acc) hs hqs hA h19 (hto h19),f7,Zj]
  grind
 rw [if_neg h19]
 by_cases hp:f0 x.1
 ·rw [if_pos hp]
  refine (XZ (fun o:Option (EY⊕((List Int)×Bool×aQ))=>o.bind _) (akA hc (e:=e) (acc:=acc) hA hs.fit hp hq j)).trans ?_
  unfold kn
  simp only [f7,Zj]
  have et1 : ∀ t',ac (s.1.set i t') (i:Int)=some t' := fun t' => bG (Yc hi)
  cases hg:(dH i f st x j s.2).2.1
  ·rfl
  ·simp only [fl,nU,f9,f7,Zj,Xa,et1,W9,af,ela,ewl,efr,W4,cY]
   rfl
 ·rw [if_neg hp]
  have e2:db x (c,e,s,acc) (i:Int) j=some (.inr ((oq s i).1,(oq s i).2.2.1,(c,e,(oq s i).2.2.2,(oq s i).2.1.foldl cB acc))):=by
   obtain ⟨n1,n2,n3,n4,n5,n6,n7,n8,n9,n10⟩:=FL h18 h19 hp
   unfold db qz oq
   simp only [bf n1,bf n2,bf n3,bf n4,bf n5,bf n6,bf n7,bf n8,bf n9,bf n10,bf h18,bf h19,no,et,f7,Zj,W9,af,f9,W4]
   by_cases h0:i=0
   ·subst h0
    rfl
   ·rw [bf (show ¬ (i:Int)=0 by omega),if_neg h0]
    rfl
  grind
theorem aaI (hc:bc c)           (h:CanDo c s i fs f st w x j) :
  iX (c,e,s,sd) (i:Int) j=some ((cP c s i fs f st w x j).1,(cP c s i fs f st w x j).2.1,(cP c s i fs f st w x j).2.2.1,(c,e,(cP c s i fs f st w x j).2.2.2,sd)):=by
 obtain ⟨⟨k,pc,hA⟩,hs,hn,hqs,hq,hto⟩:=h
 have ht:=hA.t
 have hi:=cK ht
 have et:=bG ht
 unfold iX cP
 simp only [Ww hA,f7,Zj]
 by_cases h18:x.1=18
 ·rw [if_pos h18]
  have e2:cw x (c,e,s,sd) (i:Int) j=some (.inr ((ni c s i fs f st w x.2.1).1,(ni c s i fs f st w x.2.1).2.1,(ni c s i fs f st w x.2.1).2.2.1,(c,e,(ni c s i fs f st w x.2.1).2.2.2,sd))):=by
   unfold cw
   have n6:(x.1==(16:Int))=false:=by rw [h18]; rfl
   have n7:(x.1==(17:Int))=false:=by rw [h18]; rfl
   have n8:(x.1==(18:Int))=true:=by rw [h18]; rfl
   simp only [n6,n7,n8,f9,no,alk hc (e:=e) (sd:=sd) hA h18 hn,f7,Zj]
  grind
 rw [if_neg h18]
 by_cases h19:x.1=19
 ·rw [if_pos h19]
  have e2:cw x (c,e,s,sd) (i:Int) j=some (.inr ((gk c s i fs f st w x.2.1 j).1,(gk c s i fs f st w x.2.1 j).2.1,(gk c s i fs f st w x.2.1 j).2.2.1,(c,e,(gk c s i fs f st w x.2.1 j).2.2.2,sd))):=by
   unfold cw
   have n6:(x.1==(16:Int))=false:=by rw [h19]; rfl
   have n7:(x.1==(17:Int))=false:=by rw [h19]; rfl
   have n8:(x.1==(18:Int))=false:=by rw [h19]; rfl
   have n9:(x.1==(19:Int))=true:=by rw [h19]; rfl
   simp only [n6,n7,n8,n9,f9,no,ajG hc (e:=e) (sd:=sd) hs hqs hA h19 (hto h19),f7,Zj]
  grind
 rw [if_neg h19]
 by_cases hp:f0 x.1
 ·rw [if_pos hp]
  refine (XZ (fun o:Option (Mb⊕((List Int)×(List (Int×Int×Bool))×Bool×ay))=>o.bind _) (akS hc (e:=e) (sd:=sd) hA hs.fit hp hq (fun l hl=>by grind) j)).trans ?_
  unfold kn
  simp only [f7,Zj]
  cases hg:(dH i f st x j s.2).2.1
  ·rfl
  ·have en:=lY (c:=c) (e:=e) (a:=sd) (s:=nU s i fs f st w x j) (i:=i) (fs:=fs) (f:=(f.1,(dH i f st x j s.2).2.2.1)) (st:=(dH i f st x j s.2).2.2.2.1) (w:=w) (b:=false) (Yc hi) (by have:=hA.n; omega)
   have e2:gD ((dH i f st x j s.2).1,true,(gM 0 (c,e,nU s i fs f st w x j,sd)).2) (i:Int)=some (gM 0 (c,e,bM (nU s i fs f st w x j) i (fs++[(ad (f.1+1),(dH i f st x j s.2).2.2.1)],(dH i f st x j s.2).2.2.2.1,w,false),sd)).2:=by
    unfold gD
    simp only [f9]
    refine (XZ (fun o:Option ay=>o.bind _) en).trans ?_
    rfl
   refine (XZ (fun o:Option pC=>o.bind _) e2).trans ?_
   rfl
 ·rw [if_neg hp]
  have e2:cw x (c,e,s,sd) (i:Int) j=some (.inr ((oq s i).1,(oq s i).2.1,(oq s i).2.2.1,(c,e,(oq s i).2.2.2,sd))):=by
   obtain ⟨n1,n2,n3,n4,n5,n6,n7,n8,n9,n10⟩:=FL h18 h19 hp
   unfold cw nZ oq
   simp only [bf n1,bf n2,bf n3,bf n4,bf n5,bf n6,bf n7,bf n8,bf n9,bf n10,bf h18,bf h19,no,et,f7,Zj,W9,af,f9,W4,ke ht,ZX]
   by_cases h0:i=0
   ·subst h0
    rfl
   ·rw [bf (show ¬ (i:Int)=0 by omega),if_neg h0]
    rfl
  grind
end Go.Proofs.YtfhhiajfciblbaaGreatDoor
