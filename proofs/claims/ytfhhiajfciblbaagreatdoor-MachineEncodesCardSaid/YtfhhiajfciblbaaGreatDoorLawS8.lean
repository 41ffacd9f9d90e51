/- Laws for the row. No condition. -/
import Derived.Test.YtfhhiajfciblbaaGreatDoorLawS7
namespace Go.Proofs.YtfhhiajfciblbaaGreatDoor
open Go.Sm
set_option linter.unusedVariables false
set_option maxRecDepth 4000
def Yd(s:aF)(o:Int):aF:=(s.1,s.2.1,s.2.2.1,s.2.2.2.1,s.2.2.2.2.1,s.2.2.2.2.2.1,s.2.2.2.2.2.2.1,s.2.2.2.2.2.2.2.1,s.2.2.2.2.2.2.2.2.1,o,s.2.2.2.2.2.2.2.2.2.2)
def ul(s:aF)(i:Nat):xr:=([],[(5,0,true)],true,if i=0 then Yd (bA s i ([],[],0,true)) 0 else bA s i ([],[],0,true))
def pn(s:aF)(i:Nat)(fs:List Fr)(f:Fr)(st:List Int)(w:Int)(x:ce)(j:Int):xr:=
 let q:=fF i f st x j s.2
 ([(i:Int)],q.1,q.2.1,if q.2.1=true then bA (sS s i fs f st w x j) i (fs++[(ae (f.1+1),q.2.2.1)],q.2.2.2.1,w,false)else sS s i fs f st w x j)
instance (op:Int):Decidable (jl op):=by unfold jl;infer_instance
def gE(c:CC)(s:aF)(i:Nat)(fs:List Fr)(f:Fr)(st:List Int)(w:Int)(x:ce)(j:Int):xr:=
 if x.1=18 then uE c s i fs f st w x.2.1 else if x.1=19 then mJ c s i fs f st w x.2.1 j else if jl x.1 then pn s i fs f st w x j else ul s i
structure CanDo(c:CC)(s:aF)(i:Nat)(fs:List Fr)(f:Fr)(st:List Int)(w:Int)(x:ce)(j:Int):Prop where
 at_:∃k pc,AtP c s i fs f st w x k pc
 ok:StOk c s
 n:s.1.length<=1048575
 qs:∀l∈s.2.2.1,l.length<=1048575
 q:x.1=20->0<(s.2.2.1.getD x.2.1.toNat []).length
 to:x.1=19->¬0<(c.2.2.2.2.1.getD x.2.1.toNat ([],0)).2->0<=j/\j<(gt c s x.2.1).length
theorem XU{op:Int}(h18:op≠18)(h19:op≠19)(h:¬jl op):op≠16/\op≠17/\op≠20/\op≠21/\op≠22/\op≠23/\op≠24/\op≠25/\op≠26/\op≠27:=by unfold jl at h;omega
theorem ade{c:CC}(hc:bi c){e:ce}{s:aF}{sd:List bW}{i:Nat}{fs:List Fr}{f:Fr}{st:List Int}{w:Int}{x:ce}{j:Int}(h:CanDo c s i fs f st w x j) :
  iX (c,e,s,sd) (i:Int) j=some ((gE c s i fs f st w x j).1,(gE c s i fs f st w x j).2.1,(gE c s i fs f st w x j).2.2.1,(c,e,(gE c s i fs f st w x j).2.2.2,sd)):=by
 obtain⟨⟨k,pc,hA⟩,hs,hn,hqs,hq,hto⟩:=h;have ht:=hA.t;have hi:=fc ht;have et:=cL ht;unfold iX gE;simp only[adB hA,f7,Qz2];by_cases h18:x.1=18
 ·rw[if_pos h18];have e2:cE x (c,e,s,sd) (i:Int) j=some (.inr ((uE c s i fs f st w x.2.1).1,(uE c s i fs f st w x.2.1).2.1,(uE c s i fs f st w x.2.1).2.2.1,(c,e,(uE c s i fs f st w x.2.1).2.2.2,sd))):=by
   unfold cE;have n6:(x.1==(16:Int))=false:=by rw[h18];rfl
   have n7:(x.1==(17:Int))=false:=by rw[h18];rfl
   have n8:(x.1==(18:Int))=true:=by rw[h18];rfl
   simp only[n6,n7,n8,f9,aax,asl hc (e:=e) (sd:=sd) hA h18 hn,f7,Qz2]
  grind
 rw[if_neg h18];by_cases h19:x.1=19
 ·rw[if_pos h19];have e2:cE x (c,e,s,sd) (i:Int) j=some (.inr ((mJ c s i fs f st w x.2.1 j).1,(mJ c s i fs f st w x.2.1 j).2.1,(mJ c s i fs f st w x.2.1 j).2.2.1,(c,e,(mJ c s i fs f st w x.2.1 j).2.2.2,sd))):=by
   unfold cE;have n6:(x.1==(16:Int))=false:=by rw[h19];rfl
   have n7:(x.1==(17:Int))=false:=by rw[h19];rfl
   have n8:(x.1==(18:Int))=false:=by rw[h19];rfl
   have n9:(x.1==(19:Int))=true:=by rw[h19];rfl
   simp only[n6,n7,n8,n9,f9,aax,ap1 hc (e:=e) (sd:=sd) hs hqs hA h19 (hto h19),f7,Qz2]
  grind
 rw[if_neg h19];by_cases hp:jl x.1
 ·rw[if_pos hp];refine(aba (λo:Option (Y27⊕((List Int)×(List (Int×Int×Bool))×Bool×aA))=>o.bind _) (ara hc (e:=e) (sd:=sd) hA hs.fit hp hq (λl hl=>by grind) j)).trans ?_;unfold pn;simp only[f7,Qz2];cases hg:(fF i f st x j s.2).2.1
  ·rfl
  ·have en:=l7 (c:=c) (e:=e) (a:=sd) (s:=sS s i fs f st w x j) (i:=i) (fs:=fs) (f:=(f.1,(fF i f st x j s.2).2.2.1)) (st:=(fF i f st x j s.2).2.2.2.1) (w:=w) (b:=false) (adu hi) (by have:=hA.n;omega);have e2:kg ((fF i f st x j s.2).1,true,(ic 0 (c,e,sS s i fs f st w x j,sd)).2) (i:Int)=some (ic 0 (c,e,bA (sS s i fs f st w x j) i (fs++[(ae (f.1+1),(fF i f st x j s.2).2.2.1)],(fF i f st x j s.2).2.2.2.1,w,false),sd)).2:=by
    unfold kg;simp only[f9];refine(aba (λo:Option aA=>o.bind _) en).trans ?_;rfl
   refine(aba (λo:Option pZ=>o.bind _) e2).trans ?_;rfl
 ·rw[if_neg hp];have e2:cE x (c,e,s,sd) (i:Int) j=some (.inr ((ul s i).1,(ul s i).2.1,(ul s i).2.2.1,(c,e,(ul s i).2.2.2,sd))):=by
   obtain⟨n1,n2,n3,n4,n5,n6,n7,n8,n9,n10⟩:=XU h18 h19 hp;unfold cE oe ul;simp only[bf n1,bf n2,bf n3,bf n4,bf n5,bf n6,bf n7,bf n8,bf n9,bf n10,bf h18,bf h19,aax,et,f7,Qz2,acM,af,f9,aaR,ka ht,adH];by_cases h0:i=0
   ·subst h0;rfl
   ·rw[bf (show¬(i:Int)=0 by omega),if_neg h0];rfl
  grind
end Go.Proofs.YtfhhiajfciblbaaGreatDoor
