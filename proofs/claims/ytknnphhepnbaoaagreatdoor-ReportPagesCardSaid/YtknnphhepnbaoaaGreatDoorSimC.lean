/-
  Colours changed, loops, joins of ways, entering and leaving a function, calls by contract. Nothing of a program is named here; no condition.
-/
import Derived.Test.YtknnphhepnbaoaaGreatDoorSimB
namespace Go.Sm
def HA.ren (g:Nat→Nat):HA→HA
 | .rep t K xs v=>.rep t (K.map g) xs v
 | .own t e i K xs v=>.own t e (g i) (K.map g) xs v
 | .box i b cs=>.box (g i) b cs
 | .elem t K x p=>.elem t (K.map g) x p
 | .old w0 S=>.old w0 S
 | .pure p=>.pure p
 | .gl g n cs=>.gl g n cs
structure Gd (g:Nat→Nat):Prop where
 z:g 0=0
 o:g 1=1
 two : ∀ k,2≤k→2≤g k
theorem HA.ren_holds {g:Nat→Nat} (hg:Gd g) {w:World} {c:Col}:(A:HA)→A.holds w c→(A.ren g).holds w (fun b=>g (c b))
 | .rep t K xs v,h=>RepR.keep (S:=fun b=>c b∈K) (fun b _ hb=>⟨List.mem_map.2 ⟨_,hb,rfl⟩,rfl⟩) (.slice t) xs v h
 | .own t e i K xs v,⟨ys,h1,h2,h3⟩=>⟨ys,h1.mono (RepR.keep (S:=fun b=>c b∈K) (fun b _ hb=>⟨List.mem_map.2 ⟨_,hb,rfl⟩,rfl⟩) t),h2,fun b hb=>by show g (c b)=g i; rw [h3 b hb]⟩
 | .box i b cs,⟨h1,h2⟩=>⟨h1,by show g (c b)=g i; rw [h2]⟩
 | .elem t K x p,⟨y,b,off,arr,ty,fz,hp,hc,h1,h2,h3,h4⟩=>
  ⟨y,b,off,arr,ty,fz,hp,List.mem_map.2 ⟨_,hc,rfl⟩,h1,h2,h3,RepR.keep (S:=fun b=>c b∈K) (fun b _ hb=>⟨List.mem_map.2 ⟨_,hb,rfl⟩,rfl⟩) t x y h4⟩
 | .old w0 c0,⟨h1,h2,h3,h4⟩=>⟨h1,fun b hb h01=>⟨(h2 b hb h01).1,by
   show g (c b)=_
   rw [(h2 b hb h01).2]
   rcases (show c0 b=0∨c0 b=1 by omega) with e | e <;> rw [e]
   ·exact hg.z
   ·exact hg.o⟩,fun b hb hb' => hg.two _ (h3 b hb hb'),h4⟩
 | .pure _,h=>h
 | .gl b n cs,⟨h1,h2,h3⟩=>⟨h1,by
   show g (c b)≤1
   rcases (show c b=0∨c b=1 by omega) with e | e <;> rw [e]
   ·rw [hg.z]; omega
   ·rw [hg.o]; omega,h3⟩
theorem Heap.ren {g:Nat→Nat} (hg:Gd g) {w:World} {c:Col} {L:List HA} (h:Heap w c L):Heap w (fun b=>g (c b)) (L.map (HA.ren g)):=by
 intro A hA
 obtain ⟨B,hB,rfl⟩:=List.mem_map.1 hA
 exact B.ren_holds hg (h B hB)
def mkg (l:List (Nat×Nat)) (d:Nat) (k:Nat):Nat:=
 match k with
 | 0=>0
 | 1=>1
 | _=>match l with
  | []=>d
  | (a,b)::r=>cond (Nat.beq k a) b (mkg r d k)
theorem mkg_gd {l:List (Nat×Nat)} {d:Nat} (h:(d::l.map (·.2)).all (fun x=>Nat.ble 2 x)=true):Gd (mkg l d):=by
 have hd:2≤d:=Nat.le_of_ble_eq_true (List.all_eq_true.1 h d (by simp))
 have hl : ∀ p∈l,2≤p.2:=fun p hp=>Nat.le_of_ble_eq_true (List.all_eq_true.1 h p.2 (by simp only [List.mem_cons,List.mem_map]; exact .inr ⟨p,hp,rfl⟩))
 refine ⟨by simp [mkg],by simp [mkg],?_⟩
 intro k hk
 clear h
 induction l with
 | nil=>
  match k,hk with
  | k+2,_=>exact hd
 | cons p r ih=>
  obtain ⟨a,b⟩:=p
  match k,hk with
  | k+2,hk=>
   simp only [mkg]
   cases hb:Nat.beq (k+2) a
   ·exact ih fun q hq=>hl q (List.mem_cons_of_mem _ hq)
   ·exact hl (a,b) (by simp)
theorem subK {K Ka:List Nat} (h:K.all (fun k=>Ka.any fun j=>Nat.beq k j)=true) {k:Nat} (hk:k∈K):k∈Ka:=by
 obtain ⟨j,hj,he⟩:=List.any_eq_true.1 (List.all_eq_true.1 h k hk)
 exact (Nat.eq_of_beq_eq_true he) ▸ hj
theorem own_rep {w:World} {c:Col} {t:Ty} {e:TypeId} {i:Nat} {K:List Nat} {xs:List t.den} {v:Hd} (h:HA.holds w c (.own t e i K xs v)):HA.holds w c (.rep t (i::K) xs v):=by
 obtain ⟨ys,h1,h2,h3⟩:=h
 obtain ⟨a,n,cap⟩:=v
 refine ⟨ys,h1.mono (RepR.keep (fun b _ hb=>⟨List.mem_cons_of_mem _ hb,rfl⟩) t),?_⟩
 rcases h2.2 with ⟨hv,hn⟩ | ⟨g,cap',cur,ty,fz,hv,hg,_,hle,hm,hsz,hcells⟩
 ·simp only [Hd.val,Value.slice.injEq] at hv
  obtain ⟨rfl,rfl,rfl⟩:=hv
  exact ⟨by simp [hn],by simp [hn],by simp [maxLen], .inl ⟨trivial,rfl⟩⟩
 ·simp only [Hd.val,Value.slice.injEq] at hv
  obtain ⟨rfl,rfl,rfl⟩:=hv
  exact ⟨rfl,hle,hm, .inr ⟨g,0,cur,ty,fz,rfl,by show c g∈i::K; rw [h3 g rfl]; simp,hg,by simp [hsz],by simpa using hcells⟩⟩
def Weak (A A' : HA):Prop:=∀ w c,A.holds w c→A'.holds w c
theorem weak_slim {t:Ty} {e:TypeId} {i:Nat} {K K' : List Nat} {xs:List t.den} {v:Hd} (h:t.pureB=true):Weak (.own t e i K xs v) (.own t e i K' xs v):=
 fun _ _ ⟨ys,h1,h2,h3⟩=>⟨ys,h1.mono (fun x y _=>RepR.pure t x y h),h2,h3⟩
theorem weak_same {A:HA}:Weak A A:=fun _ _ h=>h
def Free (A:HA):Prop:=∀ w c,A.holds w c
theorem free_rep {t:Ty} {K:List Nat}:Free (.rep t K [] ⟨none,0,0⟩):=fun _ _=>⟨[],trivial,rfl,by simp,by simp [maxLen], .inl ⟨trivial,rfl⟩⟩
theorem free_own {t:Ty} {e:TypeId} {i:Nat} {K:List Nat}:Free (.own t e i K [] ⟨none,0,0⟩):=fun _ _=>⟨[],trivial,⟨by simp [cellsOf], .inl ⟨rfl,rfl⟩⟩,fun g hg=>by simp [Value.ownBlock] at hg⟩
def PaidL (L:List HA):List HA→Prop
 | []=>True
 | A' :: r=>((∃ (k:Nat) (A:HA),L[k]? = some A∧Weak A A')∨Free A')∧PaidL L r
theorem PaidL.heap {w:World} {c:Col} {L:List HA} (hL:Heap w c L) : ∀ {l:List HA},PaidL L l→Heap w c l
 | [],_=>Heap.nil _ _
 | _::_,⟨.inl ⟨_,_,hk,hc⟩,hr⟩=>Heap.cons (hc w c (hL.at hk)) (hr.heap hL)
 | _::_,⟨.inr hf,hr⟩=>Heap.cons (hf w c) (hr.heap hL)
def sets (ρ:Env):List (Nat×Value)→Env
 | []=>ρ
 | (d,v)::l=>upd (sets ρ l) d v
def iter {S R:Type} (f:S→Option (S⊕R)):Nat→S→Option R
 | 0,_=>none
 | k+1,s=>(f s).bind fun | .inl s' => iter f k s' | .inr r=>some r
section
variable {P:Program} {n:Nat} {Q:Exit→Act→World→Prop} {ρ:Env} {L:List HA}
theorem bind_some {α β:Type} {m:Option α} {k:α→Option β} {r:β} (h:m.bind k=some r) : ∃ s,m=some s∧k s=some r:=Option.bind_eq_some_iff.1 h
theorem s_enter {f:FuncId} {fn:Func} {cd:Code} {R:Ending→World→Prop} (hf:P.funcs[f]? = some fn) (hb:fn.body=some cd) (hn:fn.ntmps=n) (args:List Value) {w0:World} {c0:Col}
  (hargs:Nat.ble args.length n=true) (hL:Heap w0 c0 L) (h:Sim P n cd (bodyPost P fn R) (fun t=>args.getD t undef) (.old w0 c0::L)):Calls P f args.toArray w0 R:=by
 refine calls_of_wp hf hb (h _ w0 c0 ⟨rfl,?_,fun t=>?_⟩ (Heap.cons ⟨Nat.le_refl _,fun b _ _=>⟨rfl,rfl⟩,fun b h1 h2=>h2 h1,Same3.refl _⟩ hL))
 ·have:=Nat.le_of_ble_eq_true hargs
  simp [hn]; omega
 ·simp only [Array.getD_eq_getD_getElem?,List.getD_eq_getElem?_getD,Array.getElem?_append,Array.getElem?_replicate,List.size_toArray,List.getElem?_toArray]
  split
  ·rfl
  ·rename_i hge
   rw [List.getElem?_eq_none (by omega)]
   split <;> rfl
def Covers (K:List Nat) (A A' : HA):Prop:=∀ w c,A.holds w c→A'.holds w (oldc fun b=>c b∈K)
def PreOk (L:List HA) (Ka:List Nat):List HA→Prop
 | []=>True
 | A' :: r=>((∃ (k:Nat) (A:HA),L[k]? = some A∧Covers Ka A A')∨Free A')∧PreOk L Ka r
theorem PreOk.heap {Ka:List Nat} {w:World} {c:Col} (hL:Heap w c L) : ∀ {l:List HA},PreOk L Ka l→Heap w (oldc fun b=>c b∈Ka) l
 | [],_=>Heap.nil _ _
 | _::_,⟨.inl ⟨_,_,hk,hc⟩,hr⟩=>Heap.cons (hc w c (hL.at hk)) (hr.heap hL)
 | _::_,⟨.inr hf,hr⟩=>Heap.cons (hf w _) (hr.heap hL)
def instK (N:Nat) (Ka:List Nat):List Nat→List Nat
 | []=>[]
 | 0::r=>instK N Ka r
 | 1::r=>Ka++instK N Ka r
 | (k+2)::r=>(N+k)::instK N Ka r
def HA.inst (N:Nat) (Ka:List Nat):HA→HA
 | .rep t K xs v=>.rep t (instK N Ka K) xs v
 | .own t e i K xs v=>.own t e (N+(i - 2)) (instK N Ka K) xs v
 | .box i b cs=>.box (N+(i - 2)) b cs
 | .elem t K x p=>.elem t (instK N Ka K) x p
 | .old w0 S=>.old w0 S
 | .pure p=>.pure p
 | .gl g n cs=>.gl g n cs
def HA.leaves:HA→Bool
 | .rep _ K _ _=>K.all fun k=>Nat.ble 1 k
 | .own _ _ i K _ _=>Nat.ble 2 i&&K.all fun k=>Nat.ble 1 k
 | .box i _ _=>Nat.ble 2 i
 | .elem _ K _ _=>K.all fun k=>Nat.ble 1 k
 | .old _ _=>false
 | .pure _=>true
 | .gl _ _ _=>false
theorem instK_mem {N:Nat} {Ka:List Nat} : ∀ {K:List Nat} {k:Nat},k+2∈K→N+k∈instK N Ka K
 | 0::r,k,h=>by
  rcases List.mem_cons.1 h with h | h
  ·omega
  ·exact instK_mem (K:=r) h
 | 1::r,k,h=>by
  rcases List.mem_cons.1 h with h | h
  ·omega
  ·exact List.mem_append_right _ (instK_mem (K:=r) h)
 | (j+2)::r,k,h=>by
  rcases List.mem_cons.1 h with h | h
  ·simp only [instK]; rw [show k=j by omega]; exact List.mem_cons_self
  ·exact List.mem_cons_of_mem _ (instK_mem (K:=r) h)
theorem instK_one {N:Nat} {Ka:List Nat} : ∀ {K:List Nat} {k:Nat},1∈K→k∈Ka→k∈instK N Ka K
 | 0::r,k,h,hk=>by
  rcases List.mem_cons.1 h with h | h
  ·omega
  ·exact instK_one (K:=r) h hk
 | 1::r,k,_,hk=>List.mem_append_left _ hk
 | (j+2)::r,k,h,hk=>by
  rcases List.mem_cons.1 h with h | h
  ·omega
  ·exact List.mem_cons_of_mem _ (instK_one (K:=r) h hk)
end
end Go.Sm
