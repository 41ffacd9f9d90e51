/-
  copy into a row of one's own, of elements of one cell. Nothing of a program is named here; no condition.
-/
import Derived.Laws.IdiomCopy
import Derived.Test.YtfhhiajfciblbaaGreatDoorSimQ
namespace Go.Sm
def Fm (w:World) (ty:Ty) (ys:List ty.den) (s:Hd):Prop:=∃ rs:List ty.Refs,ys.length=rs.length∧s.n=ys.length∧(ys.length=0∨∃ b o,s.a=some ⟨b,o,none⟩∧∀ j u,(cellsOf ty ys rs)[j]? = some u→w.cell? ⟨b,o+j,none⟩=some u)
theorem Bx {w:World} {c:bd} {ty:Ty} {K:List Nat} {ys:List ty.den} {s:Hd} (h:HA.holds w c (.rep ty K ys s)):Fm w ty ys s:=by
 obtain ⟨rs,hr,hn,hle,hm,hc⟩:=h
 refine ⟨rs,hr.length,hn,?_⟩
 rcases hc with ⟨h1,h2⟩ | ⟨b,off,arr,tt,fz,h1,hS,hbb,hfit,hcells⟩
 ·exact .inl (by omega)
 ·refine .inr ⟨_,_,h1,fun j u hu=>?_⟩
  rw [kn hbb]
  rw [← hcells,List.getElem?_take] at hu
  split at hu
  ·simpa [List.getElem?_drop] using hu
  ·cases hu
theorem ZG {w:World} {ty:Ty} {xs:List ty.den} {s u:Hd} {lo hi:Int} (hsz:ty.sz=1) (h:Fm w ty xs u) (hp:mV s u 1 lo hi) (hb:lo≤hi∧hi≤xs.length):Fm w ty ((xs.take hi.toNat).drop lo.toNat) s:=by
 obtain ⟨rs,hl,hn,hc⟩:=h
 obtain ⟨h0,hsn,hpt⟩:=hp
 have hlen:((xs.take hi.toNat).drop lo.toNat).length=hi.toNat - lo.toNat:=by
  rw [List.length_drop,List.length_take]; omega
 refine ⟨(rs.take hi.toNat).drop lo.toNat,by simp [hl],by rw [hlen]; omega,?_⟩
 by_cases hlt:lo<hi
 ·obtain ⟨b,o,ha,hu⟩:=hpt hlt
  right
  refine ⟨_,_,ha,fun j v hv=>?_⟩
  rcases hc with hc | ⟨b',o',hua,hcell⟩
  ·omega
  ·rw [ow ty _ (by simp [hl]),gO ty _ hl,hsz,Nat.mul_one,Nat.mul_one,List.getElem?_drop,List.getElem?_take] at hv
   split at hv
   ·have:=hcell _ _ hv
    simp only [dP,hua,Nat.mul_one,Addr.mk.injEq,and_true] at hu
    obtain ⟨rfl,rfl⟩:=hu
    rwa [Nat.add_assoc]
   ·cases hv
 ·left; rw [hlen]; omega
theorem H6 {P:Program} {w:World} {dT sT ty e e' : TypeId} (hu:P.underlying dT=some (.slice e')) (hs:(P.info? e').map (·.size)=some 1) {h d s:Hd} {n:Nat} {xs ys:List Value} {lo hi:Int} (hown:w.ownsRow 0 e 1 h.val n xs)
  (hp:mV d h 1 lo hi) (hb:lo≤hi∧hi≤n) (hsn:s.n=ys.length) (hsc:ys.length=0∨∃ a,s.a=some a∧∀ j u,ys[j]? = some u→w.cell? (a.add j)=some u) (h1 : ∀ v∈ys,v.oneCell' = true) :
  ∃ w',(Builtin.copy_ #[dT,sT] ty #[d.val,s.val]).run P w = .ok (.int .i64 ((min (hi - lo).toNat ys.length:Nat):Int)) w' ∧
   w'.ownsRow 0 e 1 h.val n (xs.take lo.toNat++ys.take (min (hi - lo).toNat ys.length)++xs.drop (lo.toNat+min (hi - lo).toNat ys.length))∧w.grownBy w' h.val.ownBlock:=by
 obtain ⟨h0,hdn,hpt⟩:=hp
 obtain ⟨k,hk⟩ : ∃ k,k=min (hi - lo).toNat ys.length:=⟨_,rfl⟩
 rw [← hk]
 by_cases hk0:k=0
 ·refine ⟨w,?_,?_,⟨rfl,rfl,rfl,Nat.le_refl _,fun _ _ _=>rfl⟩⟩
  ·rw [hk0]
   exact run_copy_none w dT sT ty e' d.a s.a d.n d.cap s.n s.cap hu hs (by rw [hsn]; simp only [Nat.min_def]; split <;> omega)
  ·rw [hk0]
   simpa using hown
 ·obtain ⟨b,o,hda,hpat⟩:=hpt (by omega)
  rcases hsc with hsc | ⟨a,hsa,hcell⟩
  ·omega
  ·have hlk:(ys.take k).length=k:=by rw [List.length_take]; omega
   rcases hown.2 with ⟨hv,hn0⟩ | ⟨g,cap,cur,hv,hbg,hg,hnc,hcm,hcs,htake⟩
   ·omega
   ·simp only [Hd.val,Value.slice.injEq] at hv
    obtain ⟨v1,v2,v3⟩:=hv
    simp only [dP,v1,Nat.mul_one,Nat.zero_add,Addr.mk.injEq,and_true] at hpat
    obtain ⟨rfl,rfl⟩:=hpat
    have hxl:xs.length=n:=by simpa using hown.1
    have hr:=run_copy_row (P:=P) w dT sT ty e' g lo.toNat d.n d.cap a s.n s.cap cur e (ys.take k) hu hs hg (by rw [hlk,hsn]; simp only [Nat.min_def]; split <;> omega)
     (fun j v hv=>hcell j v (by rw [List.getElem?_take] at hv; split at hv; exact hv; cases hv)) (by rw [hlk,hcs]; omega) (fun v hv=>h1 v (List.mem_of_mem_take hv))
    refine ⟨w.setRow g (cur.toList.take lo.toNat++ys.take k++cur.toList.drop (lo.toNat+(ys.take k).length)).toArray,?_,⟨?_, .inr ⟨g,cap,_,by simp [Hd.val,v1,v2,v3],hbg,setRow_heap w g cur _ e _ hg,hnc,hcm,?_,?_⟩⟩,⟨rfl,rfl,rfl,by simp,fun k _ hk=>setRow_other w g k _ (fun e=>hk (by simp [Hd.val,v1,Value.ownBlock,e]))⟩⟩
    ·simpa only [Hd.val,hda,hsa,hlk,goInt] using hr
    ·simp only [List.length_append,List.length_take,List.length_drop]; omega
    ·simp only [List.size_toArray,List.length_append,List.length_take,List.length_drop,Array.length_toList]; omega
    ·have hcl:cur.toList.length=cap:=by rw [Array.length_toList]; omega
     rw [Nat.mul_one] at htake
     have e1:xs.take lo.toNat=cur.toList.take lo.toNat:=by rw [← htake,List.take_take,Nat.min_eq_left (by omega)]
     have e2:xs.drop (lo.toNat+k)=(cur.toList.drop (lo.toNat+k)).take (n - (lo.toNat+k)):=by rw [← htake,List.drop_take]
     have l1:(cur.toList.take lo.toNat++ys.take k).length=lo.toNat+k:=by rw [List.length_append,hlk,List.length_take]; omega
     rw [e1,e2,hlk,Nat.mul_one,List.take_append,l1,List.take_of_length_le (by omega)]
section
variable {P:Program} {ρ:cF} {L:List HA} {o:Oper}
theorem ZC {t u e e' : TypeId} {sz by_:Nat} {x y:Operand} {ty:Ty} {ci:Nat} {K:List Nat} {xs ys:List ty.den} {h d s:Hd} {lo hi:Int} {z:Value} (hpure:ty.pureB=true) (h1:Nat.beq ty.sz 1=true) (j:Nat)
  (hj:L[j]? = some (.own ty e ci K xs h)) (hd : ∀ w c,ai w c L→mV d h 1 lo hi) (hsrc : ∀ w c,ai w c L→Fm w ty ys s) (ho:o.op = .call { callee:=.builtin .copy,args:=#[x,y],argTypes:=#[t,u] }) (ht:P.underlying t=some (.slice e')) (hi' : TI P e' sz by_ z) (hs:Nat.beq sz 1=true)
  (hx:aK ρ x=d.val) (hy:aK ρ y=s.val) (hb:decide (lo≤hi∧hi≤xs.length)=true) (hci:Nat.ble 2 ci=true) (he:Nat.blt e 1048576=true) :
  cz P ρ o L [ci] (fun _:Unit=>.int .i64 ((min (hi - lo).toNat ys.length:Nat):Int)) (fun _=>[.own ty e ci K (xs.take lo.toNat++ys.take (min (hi - lo).toNat ys.length)++xs.drop (lo.toNat+min (hi - lo).toNat ys.length)) h]):=by
 intro a ev w c next Q ha hL hk
 have htihi:=hi'; clear hi'
 obtain ⟨inf,hi',hzz,hs1,hb1⟩:=htihi.get
 obtain ⟨rs,hr1,hown,hcol⟩:=hL.at hj
 obtain ⟨rs2,hl2,hn2,hc2⟩:=hsrc w c hL
 obtain ⟨hb1,hb2⟩:=of_decide_eq_true hb
 have hsz1:=Nat.eq_of_beq_eq_true h1
 have hs' := Nat.eq_of_beq_eq_true hs
 have hlc:(cellsOf ty ys rs2).length=ys.length:=by rw [bU ty hl2,hsz1,Nat.mul_one]
 replace hown:w.ownsRow 0 e 1 h.val xs.length (cellsOf ty xs rs):=by rw [← hsz1]; exact hown.plain he
 obtain ⟨w',hrun,ho',hg⟩:=H6 (P:=P) (ty:=o.type) (sT:=u) ht (by rw [hi']; simp [hs1,hs']) hown (hd w c hL) ⟨hb1,hb2⟩ (ys:=cellsOf ty ys rs2) (by rw [hlc]; exact hn2) (by rw [hlc]; exact hc2.imp id fun ⟨b,o,h1,h2⟩=>⟨_,h1,fun j u hu=>by rw [d6]; exact h2 j u hu⟩) (gK ty)
 rw [hlc] at hrun ho'
 have hex:(execOp ev o).run P w = .ok (.value (.int .i64 ((min (hi - lo).toNat ys.length:Nat):Int))) w' := by
  simp [execOp,ho,ha,hx,hy,resolve,invoke,builtin,hrun,Result.andThen]
 rw [hex]
 have hst:=sA hci hg hcol
 have hlo:=(hd w c hL).1
 have hlen:(xs.take lo.toNat++ys.take (min (hi - lo).toNat ys.length)++xs.drop (lo.toNat+min (hi - lo).toNat ys.length)).length=xs.length:=by
  simp only [List.length_append,List.length_take,List.length_drop]; omega
 refine hk () w' _ hst (ai.cons (show (HA.own ty e ci K _ h).holds w' _ from ⟨rs.take lo.toNat++rs2.take (min (hi - lo).toNat ys.length)++rs.drop (lo.toNat+min (hi - lo).toNat ys.length),?_,?_,wF (fun g hg=>.inl hg) hcol⟩) (ai.nil _ _))
 ·exact iK (by have:=hr1.length; simp only [List.length_append,List.length_take,List.length_drop]; omega) fun j x y _ _=>bA.pure ty x y hpure
 ·have:=hr1.length
  rw [hlen,dC ty (by simp only [List.length_append,List.length_take]; omega),dC ty (by simp only [List.length_take]; omega),gO ty _ hr1.length,gO ty _ hl2,ow ty _ hr1.length,hsz1]
  simp only [Nat.mul_one]
  exact tV ho'
theorem IB {t e:TypeId} {x y:Operand} {klo:IntKind} {i:Int} {ty:Ty} {ci:Nat} {K:List Nat} {xs:List ty.den} {h:Hd} {sz by_:Nat} {z:Value} (k:Nat) (hk:L[k]? = some (.own ty e ci K xs h)) (ho:o.op = .slice t x (some y) none none)
  (ht:P.underlying t=some (.slice e)) (hti:TI P e sz by_ z) (hs:sz=ty.sz) (h1:Nat.beq sz 1=true) (hx:aK ρ x=h.val) (hlo:aK ρ y = .int klo i) (hb:decide (0≤i∧i≤(xs.length:Int)∧(xs.length:Int)≤xs.length)=true) (he:Nat.blt e 1048576=true) :
  cz P ρ o L [] (fun _:Unit=>(h.cut i.toNat (xs.length:Int).toNat sz).val) (fun _=>[.rep ty (ci::K) ((xs.take (xs.length:Int).toNat).drop i.toNat) (h.cut i.toNat (xs.length:Int).toNat sz), .pure (mV (h.cut i.toNat (xs.length:Int).toNat sz) h 1 i xs.length)]):=fun a ev w c next Q ha hL hn=>by
 obtain ⟨h0,hj,_⟩:=of_decide_eq_true hb
 refine ux (L:=.rep ty (ci::K) xs h::L) (i:=i) (klo:=klo) (khi:=.i64) (j:=xs.length) 0 rfl ho ht hti hs hx hlo rfl hb a ev w c next Q ha (ai.cons (wE (hL.at hk)) hL) fun y w' c' hst hF=>hn () w' c' hst (ai.cons (hF.at (k:=0) rfl) (ai.cons ?_ (ai.nil _ _)))
 obtain ⟨ys,hr,hown,hcol⟩:(HA.own ty e ci K xs h).holds w c:=hL.at hk
 have hs1:=Nat.eq_of_beq_eq_true h1
 refine ⟨h0,by simp only [Hd.cut]; omega,fun hlt=>?_⟩
 rcases (hown.plain he).2 with ⟨hv,hn0⟩ | ⟨g,cap,cur,hv,_,_,hnc,_⟩
 ·omega
 ·simp only [Hd.val,Value.slice.injEq] at hv
  obtain ⟨v1,v2,v3⟩:=hv
  refine ⟨g,i.toNat,?_,?_⟩
  ·simp only [Hd.cut,v1,v3,hs1,Nat.mul_one]
   rw [if_neg (by omega)]
   simp [d6]
  ·simp [dP,v1]
end
end Go.Sm
