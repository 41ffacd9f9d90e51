/-
  What operations on slices come to. Nothing of a program is named here; no condition.
-/
import Derived.Test.YtknnphhepnbaoaaGreatDoorSimD
namespace Go.Sm
def idx {α:Type} (xs:List α) (i:Int):Option α:=if 0≤i then xs[i.toNat]? else none
theorem idx_some {α:Type} {xs:List α} {i:Int} {x:α} (h:idx xs i=some x):0≤i∧xs[i.toNat]? = some x∧i.toNat<xs.length:=by
 unfold idx at h
 split at h
 ·rename_i h0
  exact ⟨h0,h,(List.getElem?_eq_some_iff.1 h).1⟩
 ·simp at h
def facts:(t:Ty)→List Nat→t.den→t.Refs→List HA
 | .one _ _ _,_,_,_=>[]
 | .arr _ _ _ _ _,_,_,_=>[]
 | .unit,_,_,_=>[]
 | .pair a b,K,x,y=>facts a K x.1 y.1++facts b K x.2 y.2
 | .slice t,K,xs,h=>[.rep t K xs h]
theorem facts_of {w:World} {c:Col} {K:List Nat}:(t:Ty)→(x:t.den)→(y:t.Refs)→RepR w (fun b=>c b∈K) t x y→Heap w c (facts t K x y)
 | .one _ _ _,_,_,_=>Heap.nil _ _
 | .arr _ _ _ _ _,_,_,_=>Heap.nil _ _
 | .unit,_,_,_=>Heap.nil _ _
 | .pair a b,x,y,h=>(facts_of a x.1 y.1 h.1).append (facts_of b x.2 y.2 h.2)
 | .slice _,_,_,h=>Heap.cons h (Heap.nil _ _)
theorem of_facts {w:World} {c:Col} {K:List Nat}:(t:Ty)→(x:t.den)→(y:t.Refs)→Heap w c (facts t K x y)→RepR w (fun b=>c b∈K) t x y
 | .one _ _ _,_,_,_=>trivial
 | .arr _ _ _ _ _,_,_,_=>trivial
 | .unit,_,_,_=>trivial
 | .pair a b,x,y,h=>⟨of_facts a x.1 y.1 fun A hA=>h A (List.mem_append_left _ hA),of_facts b x.2 y.2 fun A hA=>h A (List.mem_append_right _ hA)⟩
 | .slice t,xs,hd,h=>h (.rep t K xs hd) (by simp [facts])
inductive Pth:Ty→Ty→Type 1
 | here {t:Ty}:Pth t t
 | fst {a b t:Ty} (p:Pth a t):Pth (.pair a b) t
 | snd {a b t:Ty} (p:Pth b t):Pth (.pair a b) t
def Pth.get : {t u:Ty}→Pth t u→t.den→u.den
 | _,_, .here,x=>x
 | _,_, .fst p,x=>p.get x.1
 | _,_, .snd p,x=>p.get x.2
def Pth.set : {t u:Ty}→Pth t u→t.den→u.den→t.den
 | _,_, .here,_,z=>z
 | _,_, .fst p,x,z=>(p.set x.1 z,x.2)
 | _,_, .snd p,x,z=>(x.1,p.set x.2 z)
def Pth.refs : {t u:Ty}→Pth t u→t.Refs→u.Refs
 | _,_, .here,x=>x
 | _,_, .fst p,x=>p.refs x.1
 | _,_, .snd p,x=>p.refs x.2
def Pth.off : {t u:Ty}→Pth t u→Nat
 | _,_, .here=>0
 | _,_, .fst p=>p.off
 | _,_,@Pth.snd a _ _ p=>a.sz+p.off
theorem Pth.le : {t u:Ty}→(p:Pth t u)→p.off+u.sz≤t.sz
 | _,_, .here=>by simp [Pth.off]
 | _,_, .fst p=>by have:=p.le; simp [Pth.off,Ty.sz]; omega
 | _,_, .snd p=>by have:=p.le; simp [Pth.off,Ty.sz]; omega
theorem Pth.cells : {t u:Ty}→(p:Pth t u)→(x:t.den)→(y:t.Refs)→((t.fill x y).drop p.off).take u.sz=u.fill (p.get x) (p.refs y)
 | _,u, .here,x,y=>by simp [Pth.off,Pth.get,Pth.refs,← u.fill_length x y]
 | _,u, .fst (a:=a) (b:=b) p,x,y=>by
  have:=p.cells x.1 y.1
  have hl:=p.le
  have h1:=a.fill_length x.1 y.1
  simp only [Pth.off,Ty.fill,Pth.get,Pth.refs]
  rw [List.drop_append,List.take_append,show u.sz - (List.drop p.off (a.fill x.1 y.1)).length=0 by simp; omega]
  simpa using this
 | _,u, .snd (a:=a) (b:=b) p,x,y=>by
  have:=p.cells x.2 y.2
  have h1:=a.fill_length x.1 y.1
  simp only [Pth.off,Ty.fill,Pth.get,Pth.refs]
  rw [List.drop_append,List.drop_eq_nil_of_le (as:=a.fill x.1 y.1) (by omega),show a.sz+p.off - (a.fill x.1 y.1).length=p.off by omega]
  simpa using this
theorem Pth.rep {w:World} {S:Nat→Prop} : {t u:Ty}→(p:Pth t u)→(x:t.den)→(y:t.Refs)→RepR w S t x y→RepR w S u (p.get x) (p.refs y)
 | _,_, .here,_,_,h=>h
 | _,_, .fst p,x,y,h=>p.rep x.1 y.1 h.1
 | _,_, .snd p,x,y,h=>p.rep x.2 y.2 h.2
def fillL (place:Nat→Option (Nat×Nat)) (cells:List Value):List (Nat×List Value)→Option (List Value)
 | []=>some cells
 | (i,vs)::rest=>match place i with
  | none=>none
  | some (off,size)=>bif Nat.beq vs.length size&&Nat.ble (off+vs.length) cells.length then fillL place (cells.take off++vs++cells.drop (off+vs.length)) rest else none
theorem fold_set : ∀ (vs:List Value) (k off:Nat) (cs:Array Value),off+k+vs.length≤cs.size →
  (vs.zipIdx k).foldl (fun cs (x:Value×Nat)=>cs.setIfInBounds (off+x.2) x.1) cs=(cs.toList.take (off+k)++vs++cs.toList.drop (off+k+vs.length)).toArray
 | [],k,off,cs,_=>by apply Array.ext'; simp
 | v::vs,k,off,cs,h=>by
  simp only [List.length_cons] at h
  rw [List.zipIdx_cons,List.foldl_cons,fold_set vs (k+1) off _ (by simp; omega)]
  have hl:off+k<cs.toList.length:=by simp; omega
  have ht:(cs.toList.take (off+k)).length=off+k:=by simp; omega
  apply Array.ext'
  simp only [Array.toList_setIfInBounds,List.set_eq_take_append_cons_drop,if_pos hl]
  rw [show off+(k+1)=(cs.toList.take (off+k)).length+1 by omega,List.take_length_add_append,Nat.add_assoc (cs.toList.take (off+k)).length 1 vs.length,List.drop_length_add_append]
  simp only [List.take_succ_cons,List.take_zero,List.append_assoc,List.cons_append,List.nil_append]
  rw [Nat.add_comm 1 vs.length,List.drop_succ_cons,List.drop_drop]
  rw [List.length_cons,Nat.add_assoc (off+k),Nat.add_comm 1 vs.length]
theorem fill_list (place:Nat→Option (Nat×Nat)) (parts:Array (Nat×Operand)) (ρ:Env) : ∀ (vals:List (Nat×List Value)) (zero cells:List Value),
  parts.toList.map (fun p=>(p.1,(evo ρ p.2).cells.toList))=vals→fillL place zero vals=some cells →
  Instr.fill place zero.toArray (parts.map fun p=>(p.1,evo ρ p.2)).toList=some cells.toArray:=by
 intro vals zero cells hp h
 have gen : ∀ (ps:List (Nat×Operand)) (vals:List (Nat×List Value)) (zero:List Value),ps.map (fun p=>(p.1,(evo ρ p.2).cells.toList))=vals→fillL place zero vals=some cells →
   Instr.fill place zero.toArray (ps.map fun p=>(p.1,evo ρ p.2))=some cells.toArray:=by
  intro ps
  induction ps with
  | nil=>
   intro vals zero hp h
   subst hp
   simp only [List.map_nil,fillL,Option.some.injEq] at h
   subst h
   rfl
  | cons p ps ih=>
   intro vals zero hp h
   subst hp
   simp only [List.map_cons,fillL] at h
   cases hpl:place p.1 with
   | none=>simp [hpl] at h
   | some os=>
    obtain ⟨off,size⟩:=os
    simp only [hpl] at h
    cases hc:Nat.beq (evo ρ p.2).cells.toList.length size&&Nat.ble (off+(evo ρ p.2).cells.toList.length) zero.length
    ·rw [hc] at h; cases h
    ·rw [hc] at h
     simp only [Bool.and_eq_true] at hc
     have h1:=Nat.eq_of_beq_eq_true hc.1
     have h2:=Nat.le_of_ble_eq_true hc.2
     have:=ih _ _ rfl h
     have h1' : (evo ρ p.2).cells.size=size:=by simpa using h1
     have h2' : off+(evo ρ p.2).cells.size≤zero.length:=by simpa using h2
     simp only [List.map_cons,Instr.fill,hpl]
     rw [if_neg (by simp [h1']; omega)]
     rw [← Array.foldl_toList,Array.toList_zipIdx]
     have hf:=fold_set (evo ρ p.2).cells.toList 0 off zero.toArray (by simpa using h2')
     simp only [Nat.add_zero] at hf
     rw [show (List.foldl (fun cs x=>match x with | (c,j)=>cs.setIfInBounds (off+j) c) zero.toArray (evo ρ p.2).cells.toList.zipIdx)=_ from hf]
     exact this
 simpa using gen parts.toList vals zero hp h
section
variable {P:Program} {ρ:Env} {L:List HA} {o:Oper} {N:Nat}
theorem ok_val {Y:Type} {val:Y→Value} {Φ:Y→List HA} (h : ∀ (ev:Operand→Value) (w:World) (c:Col),ev=evo ρ→Heap w c L→∃ y,(execOp ev o).run P w = .ok (.value (val y)) w∧Heap w c (Φ y)):OpOk P ρ o L [] val Φ:=by
 intro a ev w c next Q ha hL hk
 obtain ⟨y,hr,hF⟩:=h ev w c ha hL
 rw [hr]
 exact hk y w c (Stp.refl w c) hF
theorem p_load_one {t:TypeId} {x:Operand} {d:TypeDesc} {α:Type} {f:α→Value} {hf : ∀ x,(f x).oneCell' = true} {K:List Nat} {p:Addr} {v:α} (k:Nat) (hk:L[k]? = some (.elem (.one α f hf) K v p)) (ho:o.op = .load t x)
  (ht:P.underlying t=some d) (hd:aggB d=false) (hx:evo ρ x = .pointer (some p)):PureOk P ρ o L (f v):=fun ev w c he hL=>by
 subst he
 obtain ⟨y,b,off,arr,ty,fz,rfl,_,hb,hle,hcs,_⟩:=hL.at hk
 have hc:w.cell? ⟨b,off,none⟩=some (f v):=by
  rw [cell_at hb]
  have:=congrArg (·[0]?) hcs
  simpa [Ty.fill,List.getElem?_take] using this
 simp [execOp,ho,hx,run_load1 ht hd hc]
def factsL (t:Ty) (K:List Nat):List t.den→List t.Refs→List HA
 | x::xs,y::ys=>facts t K x y++factsL t K xs ys
 | _,_=>[]
theorem of_factsL {w:World} {c:Col} {K:List Nat} (t:Ty) : ∀ {xs:List t.den} {ys:List t.Refs},xs.length=ys.length→Heap w c (factsL t K xs ys)→RepAll (RepR w (fun b=>c b∈K) t) xs ys
 | [],[],_,_=>trivial
 | x::xs,y::ys,hl,h=>⟨of_facts t x y fun A hA=>h A (List.mem_append_left _ hA),of_factsL t (by simpa using hl) fun A hA=>h A (List.mem_append_right _ hA)⟩
 | [],_::_,hl,_=>by simp at hl
 | _::_,[],hl,_=>by simp at hl
theorem grown_stp {w w' : World} {c:Col} {v:Value} {i:Nat} (hi:Nat.ble 2 i=true) (hg:w.grownBy w' v.ownBlock) (hc : ∀ g,v.ownBlock=some g→c g=i):Stp [i] w c w' (fun b=>if b<w.heap.size then c b else i):=by
 refine .mk0 hg.size (fun b hb=>by simp [hb]) (fun b hb hn=>hg.block b hb fun e=>hn ?_) (fun b h1 _=>?_) ⟨hg.os,hg.tape,hg.output⟩
 ·rw [hc b e.symm]; simp
 ·show 2≤if b<w.heap.size then c b else i
  rw [if_neg (by omega)]; exact Nat.le_of_ble_eq_true hi
theorem own_col {w:World} {c:Col} {h' : Hd} {i:Nat} {v:Value} (hb : ∀ g,h'.val.ownBlock=some g→v.ownBlock=some g∨w.heap.size≤g)
  (hc : ∀ g,v.ownBlock=some g→c g=i) : ∀ g,h'.val.ownBlock=some g→(fun b=>if b<w.heap.size then c b else i) g=i:=by
 intro g hg
 show (if g<w.heap.size then c g else i)=i
 split
 ·rename_i hlt
  rcases hb g hg with h | h
  ·exact hc g h
  ·omega
 ·rfl
theorem run_append_col {w:World} {t ty e:TypeId} {i:TypeInfo} {z:Value} (ht:P.underlying t=some (.slice e)) (hi:P.info? e=some i) (hz:i.zero=some z) (hzs:z.cells.size=i.size) (hsz:0<i.size)
  {h:Hd} {n:Nat} {xs:List Value} (hown:w.ownsRow 0 e i.size h.val n xs) {x:Hd} {m:Nat} {news:List Value} (hl:news.length=m * i.size) (hx:(x.a=none∧m=0∧x.n=0∧x.cap=0)∨∃ a,x.a=some a∧x.n=m∧∀ j u,news[j]? = some u→w.cell? (a.add j)=some u)
  (h1 : ∀ u∈news,u.oneCell' = true) (h63:n+m≤maxLen) (hbytes:(n+m) * i.bytes≤140737488355328) :
  ∃ (h' : Hd) (w' : World),(Builtin.append_ #[t,t] ty #[h.val,x.val]).run P w = .ok h'.val w' ∧ w'.ownsRow 0 e i.size h'.val (n+m) (xs++news)∧w.grownBy w' h.val.ownBlock ∧
   (∀ g,h'.val.ownBlock=some g→h.val.ownBlock=some g∨w.heap.size≤g):=by
 have toHd : ∀ (v' : Value) (w' : World),w'.ownsRow 0 e i.size v' (n+m) (xs++news)→∃ h' : Hd,v' = h'.val:=by
  intro v' w' ho
  rcases ho.2 with ⟨rfl,_⟩ | ⟨g,cap,cur,rfl,_⟩
  ·exact ⟨⟨none,0,0⟩,rfl⟩
  ·exact ⟨⟨some ⟨g,0,none⟩,n+m,cap⟩,rfl⟩
 obtain ⟨xa,xn,xc⟩:=x
 obtain ⟨ha,hn,hcap⟩:=h
 rcases hx with ⟨hxa,rfl,hxn,hxc⟩ | ⟨a,hxa,hxn,hnews⟩
 ·simp only at hxa hxn hxc
  subst hxa hxn hxc
  have hn0:news=[]:=List.eq_nil_of_length_eq_zero (by simpa using hl)
  subst hn0
  refine ⟨_,w,run_append_owned_none (P:=P) (w:=w) 0 t ty e i i.size ht hi _ n xs hown,by simpa using hown,⟨rfl,rfl,rfl,Nat.le_refl _,fun _ _ _=>rfl⟩,fun g hg=>.inl hg⟩
 ·simp only at hxa hxn
  subst hxa hxn
  by_cases hroom : ∃ g cap cur,(Hd.val ⟨ha,hn,hcap⟩) = .slice (some ⟨g,0,none⟩) n cap∧w.heap[g]? = some (.cells cur e (0,0))∧n+xn≤cap
  ·obtain ⟨v',w',hr,h2,h3,_⟩:=run_append_own (P:=P) w 0 t ty e i z i.size i.bytes ht hi hz rfl rfl hzs hsz _ n xs hown a xn xc news hl hnews h1 h63 hbytes (Nat.zero_le _)
   obtain ⟨g,cap,cur,hv,hg,hle⟩:=hroom
   have hfit:n * i.size+news.length≤cur.size:=by
    rcases hown.2 with ⟨hv',_⟩ | ⟨g',cap',cur',hv',_,hg',_,_,hcs,_⟩
    ·rw [hv] at hv'; simp at hv'
    ·rw [hv] at hv'
     simp only [Value.slice.injEq,Option.some.injEq,Addr.mk.injEq,and_true,true_and] at hv'
     obtain ⟨rfl,rfl⟩:=hv'
     rw [hg] at hg'
     simp only [Option.some.injEq,Obj.cells.injEq,and_true] at hg'
     subst hg'
     rw [hl,hcs,← Nat.add_mul]; exact Nat.mul_le_mul_right _ hle
   have hr2:=run_append_room (P:=P) w t ty e i ht hi g n cap cur hg a xn xc news hl hnews h1 hle hfit
   rw [hv] at hr
   rw [hr2] at hr
   simp only [Result.ok.injEq] at hr
   obtain ⟨rfl,rfl⟩:=hr
   refine ⟨⟨some ⟨g,0,none⟩,n+xn,cap⟩,_,by rw [hv]; exact hr2,h2,h3,fun g' hg' => .inl ?_⟩
   rw [hv]; simpa [Value.ownBlock] using hg'
  ·by_cases hnil:(Hd.val ⟨ha,hn,hcap⟩) = .slice none 0 0
   ·have hown' : w.ownsRow w.heap.size e i.size (Hd.val ⟨ha,hn,hcap⟩) n xs:=by
     refine ⟨hown.1, .inl ⟨hnil,?_⟩⟩
     rcases hown.2 with ⟨_,hn⟩ | ⟨g',cap',cur',hv',_⟩
     ·exact hn
     ·rw [hnil] at hv'; simp at hv'
    obtain ⟨v',w',hr,h2,h3,_⟩:=run_append_own (P:=P) w w.heap.size t ty e i z i.size i.bytes ht hi hz rfl rfl hzs hsz _ n xs hown' a xn xc news hl hnews h1 h63 hbytes (Nat.le_refl _)
    have h2' : w'.ownsRow 0 e i.size v' (n+xn) (xs++news):=⟨h2.1,h2.2.imp id fun ⟨g,cap,cur,hv,_,hrest⟩=>⟨g,cap,cur,hv,Nat.zero_le _,hrest⟩⟩
    obtain ⟨h',rfl⟩:=toHd v' w' h2'
    exact ⟨h',w',hr,h2',h3,fun g hg=>.inr (h2.lt g hg).1⟩
   ·rcases hown.2 with ⟨hv,_⟩ | ⟨g,cap,cur,hv,_,hg,hnc,hcm,hcs,htake⟩
    ·exact absurd hv hnil
    ·have hgrow:cap<n+xn:=by
      by_cases hle:n+xn≤cap
      ·exact absurd ⟨g,cap,cur,hv,hg,hle⟩ hroom
      ·omega
     have holds : ∀ j u,xs[j]? = some u→w.cell? ((⟨g,0,none⟩:Addr).add j)=some u:=hown.cells (g:=g) (by rw [hv]; rfl)
     have hr:=run_append_grow (P:=P) w t ty e i z ht hi hz ⟨g,0,none⟩ n cap xs hown.1 holds a xn xc news hl hnews hgrow (by simp only [maxLen] at h63; omega) (growslice_fits (by omega) hbytes)
     obtain ⟨v',w',hr',h2,h3,_⟩:=run_append_own (P:=P) w 0 t ty e i z i.size i.bytes ht hi hz rfl rfl hzs hsz _ n xs hown a xn xc news hl hnews h1 h63 hbytes (Nat.zero_le _)
     rw [hv] at hr'
     rw [hr] at hr'
     simp only [Result.ok.injEq] at hr'
     obtain ⟨rfl,rfl⟩:=hr'
     refine ⟨⟨some ⟨w.heap.size,0,none⟩,n+xn,_⟩,_,by rw [hv]; exact hr,h2,h3,fun g' hg' => .inr ?_⟩
     simp [Value.ownBlock] at hg'
     omega
theorem ok_append2 {t e:TypeId} {sz by_:Nat} {z:Value} {s x:Operand} {ty:Ty} {ci:Nat} {K K2 K' : List Nat} {xs ys:List ty.den} {h hx:Hd} (j j' : Nat)
  (hj:L[j]? = some (.own ty e ci K xs h)) (A:HA) (hj' : L[j']? = some A) (hA:Weak A (.rep ty K2 ys hx))
  (ho:o.op = .call { callee:=.builtin .append,args:=#[s,x],argTypes:=#[t,t] }) (ht:P.underlying t=some (.slice e)) (hi:TI P e sz by_ z) (hs:sz=ty.sz)
  (hzs:Nat.beq z.cells.size sz=true) (hsz:Nat.ble 1 sz=true) (hse:evo ρ s=h.val) (hxe:evo ρ x=hx.val)
  (hroom:decide ((xs.length+ys.length) * by_≤140737488355328∧xs.length+ys.length≤maxLen)=true) (hci:Nat.ble 2 ci=true) (hK:ty.pureB=true∨(K++K2).all (fun k=>!(Nat.beq k ci))=true) (hK' : K++K2=K') (he:Nat.blt e 1048576=true) :
  OpOk P ρ o L [ci] Hd.val (fun h' => [.own ty e ci K' (xs++ys) h']):=by
 intro a ev w c next Q ha hL hk
 have htihi:=hi; clear hi
 obtain ⟨inf,hi,hz,rfl,rfl⟩:=htihi.get
 obtain ⟨rs,hr1,hown,hcol⟩:=hL.at hj
 obtain ⟨rs2,hr2,hn2,hle2,hm2,hc2⟩:=hA w c (hL.at hj')
 obtain ⟨hb,h63⟩:=of_decide_eq_true hroom
 have hl2:=hr2.length
 have hlen:=cellsOf_length ty hl2
 replace hown:=hown.plain he
 rw [← hs] at hown hlen
 have hsrc:(hx.a=none∧ys.length=0∧hx.n=0∧hx.cap=0)∨∃ a,hx.a=some a∧hx.n=ys.length∧∀ j u,(cellsOf ty ys rs2)[j]? = some u→w.cell? (a.add j)=some u:=by
  rcases hc2 with ⟨h1,h2⟩ | ⟨b,off,arr,tt,fz,h1,hS,hbb,hfit,hcells⟩
  ·cases hxa:hx.a with
   | none=>exact .inl ⟨rfl,by omega,by omega,h2⟩
   | some a=>
    refine .inr ⟨a,rfl,by omega,fun j u hu=>?_⟩
    have e0:ys=[]:=List.eq_nil_of_length_eq_zero (by omega)
    have e1:rs2=[]:=List.eq_nil_of_length_eq_zero (by omega)
    subst e0 e1
    simp [cellsOf] at hu
  ·refine .inr ⟨_,h1,hn2,fun j u hu=>?_⟩
   rw [addr_add,cell_at hbb]
   rw [← hcells,List.getElem?_take] at hu
   split at hu
   ·simpa [List.getElem?_drop] using hu
   ·cases hu
 obtain ⟨h',w',hrun,ho',hg,hblk⟩:=run_append_col (P:=P) (ty:=o.type) ht hi hz (Nat.eq_of_beq_eq_true hzs) (Nat.le_of_ble_eq_true hsz) hown hlen hsrc (cellsOf_ones ty) h63 hb
 have hex:(execOp ev o).run P w = .ok (.value h'.val) w' := by
  simp [execOp,ho,ha,hse,hxe,resolve,invoke,builtin,hrun,Result.andThen]
 rw [hex]
 have hst:=grown_stp hci hg hcol
 refine hk h' w' _ hst (Heap.cons ⟨rs++rs2,?_,?_,own_col hblk hcol⟩ (Heap.nil _ _))
 ·rcases hK with hp | hK
  ·exact (hr1.mono fun x y _=>RepR.pure ty x y hp).append (hr2.mono fun x y _=>RepR.pure ty x y hp)
  ·have hno : ∀ k∈K++K2,k∉[ci]:=fun k hk hm=>by
    have:=List.all_eq_true.1 hK k hk
    simp only [List.mem_singleton] at hm
    subst hm
    simp at this
   subst hK'
   exact (hr1.mono (RepR.keep (fun b hb hcb=>⟨List.mem_append_left _ ((hst.keeps (K:=K) (fun k hk=>hno k (List.mem_append_left _ hk))) b hb hcb).1,((hst.keeps (K:=K) (fun k hk=>hno k (List.mem_append_left _ hk))) b hb hcb).2⟩) ty)).append
    (hr2.mono (RepR.keep (fun b hb hcb=>⟨List.mem_append_right _ ((hst.keeps (K:=K2) (fun k hk=>hno k (List.mem_append_right _ hk))) b hb hcb).1,((hst.keeps (K:=K2) (fun k hk=>hno k (List.mem_append_right _ hk))) b hb hcb).2⟩) ty))
 ·rw [cellsOf_append ty hr1.length,List.length_append,← hs]
  exact ownR_of ho'
theorem ok_append {t e:TypeId} {sz by_:Nat} {z:Value} {s x:Operand} {ty:Ty} {ci:Nat} {K K2 K' : List Nat} {xs ys:List ty.den} {h hx:Hd} (j j' : Nat)
  (hj:L[j]? = some (.own ty e ci K xs h)) (A:HA) (hj' : L[j']? = some A) (hA:Weak A (.rep ty K2 ys hx))
  (ho:o.op = .call { callee:=.builtin .append,args:=#[s,x],argTypes:=#[t,t] }) (ht:P.underlying t=some (.slice e)) (hi:TI P e sz by_ z) (hs:sz=ty.sz)
  (hzs:Nat.beq z.cells.size sz=true) (hsz:Nat.ble 1 sz=true) (hse:evo ρ s=h.val) (hxe:evo ρ x=hx.val)
  (hroom:decide ((xs.length+ys.length) * by_≤140737488355328∧xs.length+ys.length≤maxLen)=true) (hci:Nat.ble 2 ci=true) (hK:(K++K2).all (fun k=>!(Nat.beq k ci))=true) (hK' : K++K2=K') (he:Nat.blt e 1048576=true) :
  OpOk P ρ o L [ci] Hd.val (fun h' => [.own ty e ci K' (xs++ys) h']):=
 ok_append2 j j' hj A hj' hA ho ht hi hs hzs hsz hse hxe hroom hci (.inr hK) hK' he
theorem OpOk.weaken {κ:List Nat} {Y:Type} {val:Y→Value} {Φ Φ' : Y→List HA} (h:OpOk P ρ o L κ val Φ) (hw : ∀ y w c,Heap w c (Φ y)→Heap w c (Φ' y)):OpOk P ρ o L κ val Φ' :=
 fun a ev w c next Q ha hL hk=>h a ev w c next Q ha hL fun y w' c' hs hF=>hk y w' c' hs (hw y w' c' hF)
theorem ok_append_q {t e:TypeId} {sz by_:Nat} {z:Value} {s x:Operand} {ty:Ty} {ci:Nat} {K K2:List Nat} {xs ys:List ty.den} {h hx:Hd} (hpure:ty.pureB=true) (j j' : Nat)
  (hj:L[j]? = some (.own ty e ci K xs h)) (A:HA) (hj' : L[j']? = some A) (hA:Weak A (.rep ty K2 ys hx))
  (ho:o.op = .call { callee:=.builtin .append,args:=#[s,x],argTypes:=#[t,t] }) (ht:P.underlying t=some (.slice e)) (hi:TI P e sz by_ z) (hs:sz=ty.sz)
  (hzs:Nat.beq z.cells.size sz=true) (hsz:Nat.ble 1 sz=true) (hse:evo ρ s=h.val) (hxe:evo ρ x=hx.val)
  (hroom:decide ((xs.length+ys.length) * by_≤140737488355328∧xs.length+ys.length≤maxLen)=true) (hci:Nat.ble 2 ci=true) (he:Nat.blt e 1048576=true) :
  OpOk P ρ o L [ci] Hd.val (fun h' => [.own ty e ci K (xs++ys) h']):=
 (ok_append2 j j' hj A hj' hA ho ht hi hs hzs hsz hse hxe hroom hci (.inl hpure) rfl he).weaken fun _ w c hF=>Heap.cons (weak_slim hpure w c (hF.at (k:=0) rfl)) (Heap.nil _ _)
theorem ok_buildSlice {t e:TypeId} {sz by_:Nat} {z:Value} {n:Nat} {parts:Array (Nat×Operand)} {vals:List (Nat×List Value)} {cells:List Value} {ty:Ty} {K:List Nat} {xs:List ty.den} {ys:List ty.Refs}
  (ho:o.op = .buildSlice t n parts) (ht:P.underlying t=some (.slice e)) (hi:TI P e sz by_ z) (_hs:sz=ty.sz) (hsmall:Nat.ble (n * sz) 16777216=true) (h0:Nat.ble 1 (n * sz)=true)
  (hp:parts.toList.map (fun p=>(p.1,(evo ρ p.2).cells.toList))=vals) (hfill:fillL (fun i=>some (i * sz,sz)) ((List.range (n * sz)).map (fun j=>z.cells.toList.getD (j % z.cells.toList.length) default)) vals=some cells)
  (hx:Nat.beq xs.length n=true) (hy:Nat.beq ys.length n=true) (hcells:cellsOf ty xs ys=cells) (hpaid:PaidL L (factsL ty K xs ys)) (hN:Nat.ble 2 N=true) :
  OpOk P ρ o L [] Hd.val (fun h=>[.own ty e N K xs h]):=by
 intro a ev w c next Q ha hL hk
 have htihi:=hi; clear hi
 obtain ⟨inf,hi,hz,rfl,_⟩:=htihi.get
 have hxl:=Nat.eq_of_beq_eq_true hx
 have hyl:=Nat.eq_of_beq_eq_true hy
 have hsm:=Nat.le_of_ble_eq_true hsmall
 have hpos:=Nat.le_of_ble_eq_true h0
 have hlen:=cellsOf_length ty (xs:=xs) (ys:=ys) (by omega)
 have hex:(execOp ev o).run P w = .ok (.value (.slice (some ⟨w.heap.size,0,none⟩) n n)) (w.alloc (.cells cells.toArray e)):=by
  have hsm' : ¬ 16777216<n * inf.size:=by omega
  have hne : ¬ n * inf.size=0:=by omega
  have hfill' := fill_list _ _ _ _ _ _ hp hfill
  have hzero:(Array.range (n * inf.size)).map (z.cells[· % z.cells.size]!)=((List.range (n * inf.size)).map (fun j=>z.cells.toList.getD (j % z.cells.toList.length) default)).toArray:=by
   apply Array.ext'
   simp [Array.getElem!_eq_getD,Array.getD_eq_getD_getElem?,List.getD_eq_getElem?_getD]
  rw [← hzero] at hfill'
  simp only [execOp,ho,ha,Instr.buildSlice,Sem.run_bind,run_underlying ht,sizeOf,typeInfo,zeroValue,run_program,Result.andThen_ok,hi,hz,Sem.run_pure,if_neg hsm',if_neg hne]
  rw [hfill']
  simp [newRow,Result.andThen]
 rw [hex]
 have hst:=stp_new (w:=w) (c:=c) hN (.cells cells.toArray e)
 refine hk ⟨some ⟨w.heap.size,0,none⟩,n,n⟩ _ _ hst (Heap.cons ⟨ys,?_,⟨?_, .inr ⟨w.heap.size,n,cells.toArray,e,(0,0),by rw [hxl],heap_alloc_new w _, .inl ⟨rfl,rfl⟩,by omega,?_,?_,?_⟩⟩,fun g hg=>?_⟩ (Heap.nil _ _))
 ·exact (of_factsL ty (by omega) (hpaid.heap hL)).mono (RepR.keep (hst.keeps (by simp)) ty)
 ·rw [hlen]
 ·simp only [maxLen]
  have:n≤n * inf.size:=Nat.le_mul_of_pos_right n (Nat.pos_of_ne_zero fun h=>by simp [h] at hpos)
  omega
 ·simp only [List.size_toArray]; rw [← hcells,hlen,hxl]
 ·simp only [hcells]
  rw [List.take_of_length_le]
  rw [← hcells,hlen]; exact Nat.le_refl _
 ·simp [Value.ownBlock] at hg
  subst hg
  simp
theorem ok_buildSlice0 {t e:TypeId} {sz by_:Nat} {z:Value} {parts:Array (Nat×Operand)} {ty:Ty} {K:List Nat} (ho:o.op = .buildSlice t 0 parts) (ht:P.underlying t=some (.slice e)) (hi:TI P e sz by_ z) (hp:parts = #[]) (hN:Nat.ble 2 N=true) :
  OpOk P ρ o L [] Hd.val (fun h=>[.own ty e N K [] h]):=by
 intro a ev w c next Q ha hL hk
 have htihi:=hi; clear hi
 obtain ⟨inf,hi,_,_,_⟩:=htihi.get
 have hex:(execOp ev o).run P w = .ok (.value (.slice (some ⟨w.heap.size,0,none⟩) 0 0)) (w.alloc (.cells #[] e)):=by
  simp [execOp,ho,ha,Instr.buildSlice,run_underlying ht,sizeOf,typeInfo,hi,hp,newRow,Instr.fill,Result.andThen]
  exact congrArg (fun x=>w.alloc (.cells x e)) (Array.eq_empty_of_size_eq_zero (by simp))
 rw [hex]
 have hst:=stp_new (w:=w) (c:=c) hN (.cells #[] e)
 refine hk ⟨some ⟨w.heap.size,0,none⟩,0,0⟩ _ _ hst (Heap.cons ⟨[],trivial,⟨by simp [cellsOf], .inr ⟨w.heap.size,0,#[],e,(0,0),rfl,heap_alloc_new w _, .inl ⟨rfl,rfl⟩,by simp,by simp [maxLen],by simp,by simp [cellsOf]⟩⟩,fun g hg=>?_⟩ (Heap.nil _ _))
 ·simp [Value.ownBlock] at hg
  subst hg
  simp
end
end Go.Sm
