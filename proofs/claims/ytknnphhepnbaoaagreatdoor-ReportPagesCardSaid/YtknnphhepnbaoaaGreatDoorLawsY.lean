/-
  What pages hold. No program is walked here.
  The rows of a text. No program is walked here.
  What Read returns. No program is walked here.
  Sentences that are printed stand in one line each; those of verdicts that can be drawn are short; pages of such are read back. No program is walked here.
  Pages of verdicts that can be drawn are read back; lists of such; equal lists. No program is walked here.
  Pages and Read, by the reference. No program is walked here.
-/
import Derived.Test.YtknnphhepnbaoaaGreatDoorLawsG
import Derived.Test.YtknnphhepnbaoaaGreatDoorLawsV
import Derived.Test.YtknnphhepnbaoaaGreatDoorLawsP
namespace Go.Proofs.YtknnphhepnbaoaaGreatDoor
open Go.Sm
def rowsT (x:List (List UInt8)):List UInt8:=(x.map fun s=>s++[10]).flatten
def partT (x:List (List UInt8)):List UInt8:=rowsT x++[10]
theorem join_rows : ∀ (s:List UInt8) (r:List (List UInt8)),joinL (s::r) [10]++[10]=rowsT (s::r)
 | s,[]=>by simp [joinL,rowsT]
 | s,y::r=>by
  have h:=join_rows y r
  show (s++([10]++joinL (y::r) [10]))++[10]=rowsT (s::y::r)
  rw [List.append_assoc,List.append_assoc,h]
  simp [rowsT]
theorem join_part {x:List (List UInt8)} (h:x≠[]):joinL x [10]++[10,10]=partT x:=by
 cases x with
 | nil=>exact absurd rfl h
 | cons s r=>
  rw [partT,← join_rows]
  simp
theorem rowsT_len {K:Nat} : ∀ {x:List (List UInt8)},(∀ s∈x,s.length≤K)→(rowsT x).length≤x.length * (K+1)
 | [],_=>by simp [rowsT]
 | s::r,h=>by
  have h1:=rowsT_len (x:=r) fun y hy=>h y (List.mem_cons_of_mem _ hy)
  have h2:=h s (List.mem_cons_self ..)
  have e:rowsT (s::r)=s++[10]++rowsT r:=by simp [rowsT]
  rw [e]
  simp only [List.length_append,List.length_cons,List.length_nil,Nat.add_mul]
  rw [Nat.mul_add] at h1
  rw [Nat.mul_add]
  omega
structure PrintsAs (f:Vd→List (List UInt8)×Int) (v:Vd):Prop where
 rep:report_Print v=some (f v)
 ne:(f v).2=0→(f v).1≠[]
 cnt:(f v).1.length≤1100
 len : ∀ s∈(f v).1,s.length≤13000
def pageF (f:Vd→List (List UInt8)×Int):List Vd→List UInt8→List UInt8×Int
 | [],acc=>if 65536<acc.length then ([],4) else (acc,0)
 | v::r,acc=>if (f v).2=0 then pageF f r (acc++partT (f v).1) else ([],(f v).2)
def pageA (f:Vd→List (List UInt8)×Int) (l:List Vd):List UInt8×Int:=if 64<l.length then ([],4) else pageF f l []
theorem part_len {f:Vd→List (List UInt8)×Int} {v:Vd} (h:PrintsAs f v):(partT (f v).1).length≤15000000:=by
 have h1:=rowsT_len h.len
 have h2:=Nat.mul_le_mul_right (13000+1) h.cnt
 rw [partT,List.length_append,List.length_singleton]
 omega
theorem pageGo_eq {f:Vd→List (List UInt8)×Int} : ∀ {l:List Vd} {acc:List UInt8},(∀ v∈l,PrintsAs f v)→acc.length+l.length * 15000000≤100000000000→pageGo report_Print l acc=some (pageF f l acc)
 | [],acc,_,_=>by
  show some _=some _
  congr 1
  rw [pageF]
  by_cases h:65536<acc.length
  ·rw [if_pos h,show Nat.ble 65537 acc.length=true from Nat.ble_eq_true_of_le h]; rfl
  ·rw [if_neg h,show Nat.ble 65537 acc.length=false by
    cases hb:Nat.ble 65537 acc.length
    ·rfl
    ·have:=Nat.le_of_ble_eq_true hb
     omega]
   rfl
 | v::r,acc,h,hl=>by
  have hv:=h v (List.mem_cons_self ..)
  have hp:=part_len hv
  rw [List.length_cons,Nat.add_mul] at hl
  rw [pageGo,hv.rep,pageF]
  simp only
  by_cases h0:(f v).2=0
  ·rw [if_pos h0,show ((f v).2==0)=true by simp [h0],cond_true]
   have e:=join_part (hv.ne h0)
   have hl1:(joinL (f v).1 [10]).length+2=(partT (f v).1).length:=by rw [← e]; simp
   have hc:=hv.cnt
   have hx:xJoin (f v).1 [10]=some (joinL (f v).1 [10]):=by
    unfold xJoin
    exact chk_t (by rw [Bool.and_eq_true,decide_eq_true_eq,decide_eq_true_eq]; omega)
   rw [hx]
   simp only
   rw [chk_d (by omega),e,pageGo_eq (fun w hw=>h w (List.mem_cons_of_mem _ hw)) (by rw [List.length_append]; omega)]
  ·rw [if_neg h0,show ((f v).2==0)=false by simp [h0]]
   rfl
theorem page_rep {f:Vd→List (List UInt8)×Int} {l:List Vd} (h : ∀ v∈l,PrintsAs f v):report_Page l=some (pageA f l):=by
 unfold report_Page xPage pageA
 by_cases h64:64<l.length
 ·rw [if_pos h64,show Nat.ble 65 l.length=true from Nat.ble_eq_true_of_le h64]; rfl
 ·rw [if_neg h64,show Nat.ble 65 l.length=false by
   cases hb:Nat.ble 65 l.length
   ·rfl
   ·have:=Nat.le_of_ble_eq_true hb
    omega,cond_false,pageGo_eq h (by simp only [List.length_nil]; omega)]
end Go.Proofs.YtknnphhepnbaoaaGreatDoor
namespace Go.Proofs.YtknnphhepnbaoaaGreatDoor
open Go.Sm
abbrev Rw:=List (List UInt8)
def stepW (a:List Rw×Rw) (x:List UInt8):List Rw×Rw:=if x=[] then (a.1++[a.2],[]) else (a.1,a.2++[x])
def stepC (st:List Rw×Rw×List UInt8) (b:UInt8):List Rw×Rw×List UInt8:=if b=10 then ((stepW (st.1,st.2.1) st.2.2).1,(stepW (st.1,st.2.1) st.2.2).2,[]) else (st.1,st.2.1,st.2.2++[b])
def rowsC (s:List UInt8):List Rw×Rw×List UInt8:=s.foldl stepC ([],[],[])
def endedB (s:List UInt8):Bool:=decide ((rowsC s).2.2=[])&&decide ((rowsC s).2.1=[])
def rowsR (s:List UInt8):List Rw:=if endedB s then (rowsC s).1 else (rowsC s).1++[(rowsC s).2.1]
def foldP:List (List UInt8)→List Rw×Rw→List Rw×Rw×List UInt8
 | [],a=>(a.1,a.2,[])
 | [x],a=>(a.1,a.2,x)
 | x::y::r,a=>foldP (y::r) (stepW a x)
theorem foldP_spec : ∀ {ps:List (List UInt8)} {a:List Rw×Rw} (hne:ps≠[]),foldP ps a=((ps.dropLast.foldl stepW a).1,(ps.dropLast.foldl stepW a).2,ps.getLast hne)
 | [],_,h=>absurd rfl h
 | [x],a,_=>rfl
 | x::y::r,a,_=>by
  rw [foldP,foldP_spec (by simp)]
  rfl
theorem splA_ne10 : ∀ (k:Nat) (s:List UInt8),splA [10] k s≠[]
 | 0,s=>by simp [splA]
 | k+1,[]=>by simp [splA]
 | k+1,b::r=>by
  simp only [splA]
  split
  ·simp
  ·split <;> simp
theorem split_scan : ∀ (s:List UInt8) (k:Nat) (a:List Rw×Rw) (line p:List UInt8) (ps:List (List UInt8)),s.length≤k→splA [10] k s=p::ps→s.foldl stepC (a.1,a.2,line)=foldP ((line++p)::ps) a
 | [],k,a,line,p,ps,_,h=>by
  have e:splA [10] k ([]:List UInt8)=[[]]:=by cases k <;> rfl
  rw [e] at h
  cases h
  simp [foldP]
 | b::r,0,_,_,_,_,hk,_=>by simp at hk
 | b::r,k+1,a,line,p,ps,hk,h=>by
  simp only [List.length_cons] at hk
  have hp:([10]:List UInt8).isPrefixOf (b::r)=(10==b):=by simp [List.isPrefixOf]
  rw [splA,hp] at h
  obtain ⟨q,qs,hq⟩ : ∃ q qs,splA [10] k r=q::qs:=by
   cases hh:splA [10] k r with
   | nil=>exact absurd hh (splA_ne10 k r)
   | cons q qs=>exact ⟨q,qs,rfl⟩
  rw [List.foldl_cons]
  by_cases hb:b=10
  ·subst hb
   rw [if_pos (by decide),show (10::r).drop [(10:UInt8)].length=r from rfl,hq] at h
   cases h
   have ih:=split_scan r k (stepW a line) [] q qs (by omega) hq
   rw [stepC,if_pos rfl]
   simp only [List.append_nil,foldP]
   simp only [List.nil_append] at ih
   exact ih
  ·have hne:((10:UInt8)==b)=false:=by rw [beq_eq_false_iff_ne]; exact fun e=>hb e.symm
   rw [hne,hq] at h
   simp only [Bool.false_eq_true,if_false] at h
   cases h
   have ih:=split_scan r k a (line++[b]) q ps (by omega) hq
   rw [stepC,if_neg hb]
   simp only
   rw [ih,List.append_assoc]
   rfl
theorem splA_len10 : ∀ (k:Nat) (s:List UInt8),(splA [10] k s).length≤s.length+1∧∀ x∈splA [10] k s,x.length≤s.length
 | 0,s=>by simp [splA]
 | k+1,[]=>by simp [splA]
 | k+1,b::r=>by
  have ih:=splA_len10 k r
  simp only [splA]
  split
  ·rw [show (b::r).drop [(10:UInt8)].length=r from rfl]
   simp only [List.length_cons]
   refine ⟨by omega,fun x hx=>?_⟩
   rcases List.mem_cons.1 hx with rfl | hx
   ·simp
   ·have:=ih.2 x hx; omega
  ·cases h:splA [10] k r with
   | nil=>simp
   | cons q qs=>
    rw [h] at ih
    simp only [List.length_cons] at ih ⊢
    refine ⟨by omega,fun x hx=>?_⟩
    rcases List.mem_cons.1 hx with rfl | hx
    ·have:=ih.2 q (List.mem_cons_self ..); simp only [List.length_cons]; omega
    ·have:=ih.2 x (List.mem_cons_of_mem _ hx); omega
structure RowOk (n:Nat) (a:List Rw×Rw×List UInt8):Prop where
 out:a.1.length≤n
 row:a.2.1.length≤n
 line:a.2.2.length≤n
 outs : ∀ r∈a.1,r.length≤n∧∀ x∈r,x.length≤n
 rows : ∀ x∈a.2.1,x.length≤n
theorem RowOk.step {n:Nat} {a:List Rw×Rw×List UInt8} (h:RowOk n a) (b:UInt8):RowOk (n+1) (stepC a b):=by
 obtain ⟨h1,h2,h3,h4,h5⟩:=h
 unfold stepC stepW
 split
 ·split
  ·refine ⟨by simp only [List.length_append,List.length_singleton]; omega,by simp,by simp,fun r hr=>?_,by simp⟩
   rcases List.mem_append.1 hr with hr | hr
   ·exact ⟨by have:=(h4 r hr).1; omega,fun x hx=>by have:=(h4 r hr).2 x hx; omega⟩
   ·rw [List.mem_singleton.1 hr]
    exact ⟨by show a.2.1.length≤_; omega,fun x hx=>by have:=h5 x hx; omega⟩
  ·refine ⟨by show a.1.length≤_; omega,by simp only [List.length_append,List.length_singleton]; omega,by simp,fun r hr=>⟨by have:=(h4 r hr).1; omega,fun x hx=>by have:=(h4 r hr).2 x hx; omega⟩,fun x hx=>?_⟩
   rcases List.mem_append.1 hx with hx | hx
   ·have:=h5 x hx; omega
   ·rw [List.mem_singleton.1 hx]; omega
 ·exact ⟨by show a.1.length≤_; omega,by show a.2.1.length≤_; omega,by simp only [List.length_append,List.length_singleton]; omega,fun r hr=>⟨by have:=(h4 r hr).1; omega,fun x hx=>by have:=(h4 r hr).2 x hx; omega⟩,fun x hx=>by have:=h5 x hx; omega⟩
theorem rowOk_fold : ∀ (s:List UInt8) (n:Nat) (a:List Rw×Rw×List UInt8),RowOk n a→RowOk (n+s.length) (s.foldl stepC a)
 | [],n,a,h=>h
 | b::r,n,a,h=>by
  have:=rowOk_fold r (n+1) _ (h.step b)
  rw [List.foldl_cons,List.length_cons,show n+(r.length+1)=n+1+r.length by omega]
  exact this
theorem rowsC_ok (s:List UInt8):RowOk s.length (rowsC s):=by
 have:=rowOk_fold s 0 ([],[],[]) ⟨by simp,by simp,by simp,by simp,by simp⟩
 rw [Nat.zero_add] at this
 exact this
theorem rowsR_ok (s:List UInt8):(rowsR s).length≤s.length+1∧∀ r∈rowsR s,r.length≤s.length∧∀ x∈r,x.length≤s.length:=by
 obtain ⟨h1,h2,h3,h4,h5⟩:=rowsC_ok s
 unfold rowsR
 split
 ·exact ⟨by omega,h4⟩
 ·refine ⟨by simp only [List.length_append,List.length_singleton]; omega,fun r hr=>?_⟩
  rcases List.mem_append.1 hr with hr | hr
  ·exact h4 r hr
  ·rw [List.mem_singleton.1 hr]; exact ⟨h2,h5⟩
end Go.Proofs.YtknnphhepnbaoaaGreatDoor
namespace Go.Proofs.YtknnphhepnbaoaaGreatDoor
open Go.Sm
def readG (n:Nat) (ended:Bool) (a:Nat×List Vd) (x:Rw):(Nat×List Vd)⊕(List Vd⊕(List Vd×Int×Int)):=
 if (parseL x).2.2≠0∨(a.1+1=n∧ended=false) then .inr (.inr ([],(a.1:Int),2)) else .inl (a.1+1,a.2++[(parseL x).1])
def readT (rows:List Rw) (ended:Bool):List Vd×Int×Int:=match runL (readG rows.length ended) (fun a=>.inl a.2) rows (0,[]) with
 | .inl out=>(out,(rows.length:Int),0)
 | .inr t=>t
def readR (s:List UInt8):List Vd×Int×Int:=if 65536<s.length then ([],0,4) else if 64<(rowsR s).length then ([],64,4) else readT (rowsR s) (endedB s)
theorem read_cond {e:Int} {i n:Nat} {b:Bool} (_hi:i<n) (hn:n≤64) :
  (bif bif e != (0:Int) then true else bif (i:Int)==w64 ((n:Int) - (1:Int)) then !b else false then true else false)=decide (e≠0∨(i+1=n∧b=false)):=by
 rw [w64_id (by omega) (by omega)]
 by_cases he:e=0
 ·subst he
  rw [show ((0:Int) != 0)=false from rfl,cond_false]
  by_cases h1:i+1=n
  ·rw [show ((i:Int)==(n:Int) - 1)=true by rw [beq_iff_eq]; omega,cond_true]
   cases b <;> simp [h1]
  ·rw [show ((i:Int)==(n:Int) - 1)=false by rw [beq_eq_false_iff_ne]; omega,cond_false]
   simp [h1]
 ·rw [show (e != 0)=true by simp [he],cond_true]
  simp [he]
theorem cond_id (b:Bool):(bif b then true else false)=b:=by cases b <;> rfl
theorem read_loop {rows:List Rw} {s2:List Rw×Rw} {v8:List UInt8} {ended:Bool} (he:(bif v8==([]:List UInt8) then (s2.2.length:Int)==(0:Int) else false)=ended) (hn:rows.length≤64) (hr : ∀ r∈rows,r.length≤65536∧∀ x∈r,x.length≤65536) :
  Itr.it (report_Read_loop2 s2 v8 rows) (([]:List Vd),(0:Int))=some (runL (readG rows.length ended) (fun a=>.inl a.2) rows (0,[])):=by
 have key:=@it_runL Rw (Nat×List Vd) (List Vd⊕(List Vd×Int×Int)) (List Vd×Int) (report_Read_loop2 s2 v8 rows) (fun i a=>(a.2,i)) rows (readG rows.length ended) (fun a=>.inl a.2) (fun i a=>a.1=i∧a.2.length=i) (by omega)
 refine key (fun i x a hx hI=>?_) (fun a _=>?_) (a:=(0,[])) ⟨rfl,rfl⟩
 ·have hi:=lt_of_at hx
  obtain ⟨k,out⟩:=a
  obtain ⟨h1,h2⟩:=hI
  simp only at h1 h2
  subst h1
  obtain ⟨hx1,hx2⟩:=hr x (List.mem_of_getElem? hx)
  have hp:=parse_all (x:=x) (fun s hs=>by have:=hx2 s hs; omega) (by show x.length<_; omega)
  unfold report_Read_loop2
  simp only
  rw [dec_t (show (k:Int)<(rows.length:Int) by omega),cond_true,idx_nat hx]
  simp only [Option.bind_some]
  rw [hp]
  simp only [Option.bind_some]
  have hc:=read_cond (e:=(parseL x).2.2) (b:=ended) hi hn
  rw [cond_id] at hc
  rw [he,hc]
  unfold readG
  by_cases h:(parseL x).2.2≠0∨(k+1=rows.length∧ended=false)
  ·rw [dec_t h,cond_true,if_pos h]
   exact ⟨rfl,fun a' ha' => by cases ha'⟩
  ·rw [dec_f h,cond_false,if_neg h,chk_t (appOk_le (by simp only [List.length_singleton]; omega) (by omega)),w64_id (by omega) (by omega)]
   refine ⟨rfl,fun a' ha' => ?_⟩
   cases ha'
   exact ⟨rfl,by simp only [List.length_append,List.length_singleton]; omega⟩
 ·unfold report_Read_loop2
  simp only
  rw [dec_f (by omega)]
  rfl
theorem len_nil {α:Type} (l:List α):((l.length:Int)==0)=decide (l=[]):=by
 cases l with
 | nil=>rfl
 | cons x r=>
  rw [beq_eq_false_iff_ne.2 (by simp only [List.length_cons]; omega)]
  rfl
theorem eqnil (x:List UInt8):(x==[])=decide (x=[]):=by cases x <;> rfl
theorem read_rep {s:List UInt8}:report_Read s=some (readR s):=by
 unfold report_Read readR
 by_cases h1:65536<s.length
 ·rw [if_pos h1,dec_t (by omega)]; rfl
 ·rw [if_neg h1,dec_f (by omega),cond_false]
  have hne:=splA_ne10 s.length s
  obtain ⟨hl,hx⟩:=splA_len10 s.length s
  have hsp:xSplit s S__01ba=some (splA [10] s.length s):=by
   unfold xSplit
   refine chk_t ?_
   rw [Bool.and_eq_true]
   exact ⟨rfl,Nat.ble_eq_true_of_le (by omega)⟩
  have hscan:rowsC s=foldP (splA [10] s.length s) ([],[]):=by
   cases h:splA [10] s.length s with
   | nil=>exact absurd h hne
   | cons p ps=>exact split_scan s s.length ([],[]) [] p ps (Nat.le_refl _) h
  rw [foldP_spec hne] at hscan
  rw [hsp]
  simp only [Option.bind_some]
  generalize splA [10] s.length s=ps at *
  have hpos:1≤ps.length:=by cases ps with | nil=>exact absurd rfl hne | cons _ _=>simp
  have hw:w64 ((ps.length:Int) - 1)=((ps.length - 1:Nat):Int):=by rw [w64_id (by omega) (by omega)]; omega
  have hdl:ps.take (ps.length - 1)=ps.dropLast:=by rw [List.dropLast_eq_take]
  have hlast:ps[ps.length - 1]? = some (ps.getLast hne):=by rw [List.getLast_eq_getElem]; exact List.getElem?_eq_getElem _
  have hdlen:ps.dropLast.length=ps.length - 1:=List.length_dropLast
  rw [hw,chk_d ⟨by omega,by omega⟩]
  have hloop:=it_fold (f:=report_Read_loop1 ps) (fun i (a:List Rw×Rw)=>(a.1,a.2,i)) ps.dropLast stepW (fun a=>a) (fun i a=>a.1.length≤i∧a.2.length≤i) (by omega)
   (fun i x a hxx hI=>by
    have hi:=lt_of_at hxx
    obtain ⟨g1,g2⟩:=hI
    unfold report_Read_loop1
    simp only
    rw [hw,Int.toNat_natCast,hdl,dec_t (show (i:Int)<(ps.dropLast.length:Int) by omega),cond_true,idx_nat hxx]
    simp only [Option.bind_some]
    have hwi:w64 ((i:Int)+1)=(i:Int)+1:=w64_id (by omega) (by omega)
    unfold stepW
    by_cases hl:x=[]
    ·subst hl
     rw [if_pos rfl,show (([]:List UInt8)==[])=true from rfl,cond_true,chk_t (appOk_le (by simp only [List.length_singleton]; omega) (by omega))]
     simp only [Option.bind_some]
     rw [hwi]
     exact ⟨rfl,by simp only [List.length_append,List.length_singleton]; omega,by simp⟩
    ·rw [if_neg hl,show (x==[])=false from by rw [beq_eq_false_iff_ne]; exact hl,cond_false,chk_t (appOk_le (by simp only [List.length_singleton]; omega) (by omega))]
     simp only [Option.bind_some]
     rw [hwi]
     exact ⟨rfl,by show a.1.length≤_; omega,by simp only [List.length_append,List.length_singleton]; omega⟩)
   (fun a _=>by
    unfold report_Read_loop1
    simp only
    rw [hw,Int.toNat_natCast,hdl,dec_f (by omega)]
    rfl) (a:=([],[])) ⟨by simp,by simp⟩
  rw [show (([]:List Rw),([]:Rw),(0:Int))=(fun i (a:List Rw×Rw)=>(a.1,a.2,i)) (0:Int) ([],[]) from rfl,hloop]
  simp only [Option.bind_some]
  rw [idx_nat hlast]
  simp only [Option.bind_some]
  obtain ⟨o,ro,li,hrc⟩ : ∃ o ro li,rowsC s=(o,ro,li):=⟨_,_,_,rfl⟩
  have hok:=rowsC_ok s
  rw [hrc] at hscan hok
  simp only [Prod.mk.injEq] at hscan
  obtain ⟨e1,e2,e3⟩:=hscan
  have hfold:ps.dropLast.foldl stepW ([],[])=(o,ro):=Prod.ext e1.symm e2.symm
  rw [hfold,← e3]
  have hend:endedB s=(bif li==([]:List UInt8) then (ro.length:Int)==(0:Int) else false):=by
   unfold endedB
   rw [hrc,eqnil,len_nil]
   cases decide (li=[]) <;> simp
  have hrow:(bif !(bif li==([]:List UInt8) then (ro.length:Int)==(0:Int) else false) then chk (appOk o.length [ro].length 24) (some (o++[ro])) else some o)=some (rowsR s):=by
   rw [← hend]
   unfold rowsR
   rw [hrc]
   have:=hok.out
   simp only at this
   cases endedB s
   ·rw [Bool.not_false,cond_true,chk_t (appOk_le (by simp only [List.length_singleton]; omega) (by omega))]; rfl
   ·rfl
  rw [hrow]
  simp only [Option.bind_some]
  by_cases h2:64<(rowsR s).length
  ·rw [if_pos h2,dec_t (by omega)]; rfl
  ·obtain ⟨_,ho⟩:=rowsR_ok s
   rw [if_neg h2,dec_f (by omega),cond_false,read_loop (s2:=(o,ro)) (v8:=li) hend.symm (by omega) (fun r hr=>⟨by have:=(ho r hr).1; omega,fun x hx=>by have:=(ho r hr).2 x hx; omega⟩)]
   simp only [Option.bind_some]
   unfold readT
   cases runL (readG (rowsR s).length (endedB s)) (fun a=>.inl a.2) (rowsR s) (0,[]) <;> rfl
end Go.Proofs.YtknnphhepnbaoaaGreatDoor
namespace Go.Proofs.YtknnphhepnbaoaaGreatDoor
open Go.Sm
end Go.Proofs.YtknnphhepnbaoaaGreatDoor
namespace Go.Proofs.YtknnphhepnbaoaaGreatDoor
open Go.Sm
structure CleanV (f:Vd→List (List UInt8)×Int) (v:Vd):Prop where
 ok:(f v).2=0
 parse:parseL (f v).1=(v,((f v).1.length:Int),0)
 lines : ∀ s∈(f v).1,s≠[]∧(10:UInt8)∉s
 size:(partT (f v).1).length≤8000
theorem verdicts_eq {l:List Int} {n:Nat} (hl : ∀ x∈l,i64 x) (hn:n≤1000) : ∃ vs,culpritlaw37_verdicts l (n:Int)=some vs∧vs.length=n∧∀ v∈vs,MadeOk v:=by
 have h:=it_inv (f:=culpritlaw37_verdicts_loop1 l (n:Int)) (fun s=>n - s.2.toNat) (fun s=>∃ i:Nat,s.2=(i:Int)∧i≤n∧s.1.length=i∧∀ v∈s.1,MadeOk v) (fun r=>r.length=n∧∀ v∈r,MadeOk v)
  (fun s hs=>by
   obtain ⟨o,j⟩:=s
   obtain ⟨i,h1,h2,h3,h4⟩:=hs
   simp only at h1 h3 h4
   subst h1
   unfold culpritlaw37_verdicts_loop1
   simp only
   by_cases hi:i<n
   ·rw [dec_t (show (i:Int)<(n:Int) by omega),cond_true,w64_id (by omega) (by omega)]
    obtain ⟨q,hq,hq2⟩ : ∃ q:Nat,(if (l.length:Int)<3 * (i:Int) then (l.length:Int) else 3 * (i:Int))=(q:Int)∧q≤l.length:=by
     by_cases hc:l.length<3 * i
     ·exact ⟨l.length,by rw [if_pos (by omega)],Nat.le_refl _⟩
     ·exact ⟨3 * i,by rw [if_neg (by omega)]; omega,by omega⟩
    rw [hq]
    obtain ⟨v,hv,mv⟩:=made_eq (l:=(l.take (l.length:Int).toNat).drop q) (fun x hx=>hl x (List.mem_of_mem_take (List.mem_of_mem_drop hx)))
    rw [chk_d ⟨by omega,by omega,by omega⟩,Int.toNat_natCast q,hv]
    simp only [Option.bind_some]
    rw [vd_eta,chk_t (appOk_le (by simp only [List.length_singleton]; omega) (by omega)),w64_id (by omega) (by omega)]
    refine .inr ⟨_,rfl,⟨i+1,by simp,hi,by simp only [List.length_append,List.length_singleton]; omega,fun u hu=>?_⟩,?_⟩
    ·rcases List.mem_append.1 hu with hu | hu
     ·exact h4 u hu
     ·rw [List.mem_singleton.1 hu]; exact mv
    ·show n - ((i:Int)+1).toNat<n - (i:Int).toNat
     omega
   ·rw [dec_f (show ¬ (i:Int)<(n:Int) by omega)]
    exact .inl ⟨_,rfl,by show o.length=n; omega,h4⟩)
  (s:=([],0)) ⟨0,rfl,Nat.zero_le _,rfl,by simp⟩ (by show n - (0:Int).toNat<_; omega)
 obtain ⟨r,h1,h2,h3⟩:=h
 refine ⟨r,?_,h2,h3⟩
 unfold culpritlaw37_verdicts
 rw [h1]
 rfl
theorem sameAll_self {l:List Vd} (h : ∀ v∈l,SmallV v) (hn:Small l):culpritlaw37_sameAll l l=some true:=by
 unfold culpritlaw37_sameAll
 rw [show ((l.length:Int) != (l.length:Int))=false by simp,cond_false]
 have hloop:=it_all (f:=culpritlaw37_sameAll_loop1 l l) (z:=false) l (fun _ _=>true) hn
  (fun i x hx=>by
   have hlt:=lt_of_at hx
   have hn' : l.length<9223372036854775808:=hn
   unfold culpritlaw37_sameAll_loop1
   rw [dec_t (show (i:Int)<(l.length:Int) by omega),cond_true,idx_nat hx]
   simp only [Option.bind_some]
   rw [vd_eta,same_eq (h x (List.mem_of_getElem? hx)),dec_t (rfl:x=x)]
   simp only [Option.bind_some]
   rw [Bool.not_true,cond_false,w64_id (by omega) (by omega)]
   rfl)
  (by unfold culpritlaw37_sameAll_loop1; rw [dec_f (show ¬ (l.length:Int)<(l.length:Int) by omega)]; rfl)
 rw [allI_const,List.all_eq_true.2 fun _ _=>rfl] at hloop
 rw [hloop]
 rfl
end Go.Proofs.YtknnphhepnbaoaaGreatDoor
namespace Go.Proofs.YtknnphhepnbaoaaGreatDoor
open Go.Sm
theorem MadeOk.any {v:Vd} (h:MadeOk v):AnyV v:=by
 have PV:=properB_iff.1 h.p
 have pv2:=(possB_ok PV.word).1
 exact ⟨h.r.n.1,h.r.d.1,by have:=PV.many; show v.2.2.1.length<_; omega,fun l hl=>by have:=h.s l hl; show l.length<_; omega,by show v.2.2.2.1.length<_; omega⟩
theorem print_any2 {v:Vd} (h:AnyV v) : ∃ r,report_Print v=some r∧culpritref37_Print v=some r∧(r.2=0→r.1≠[])∧r.1.length≤1100∧∀ s∈r.1,s.length≤13000:=by
 rcases proper_any h with ⟨hr,hp,_,_⟩ | ⟨h1,h2⟩
 ·obtain ⟨t,t1,t2,t3⟩:=ratio_Print_eq hr
  obtain ⟨u,u1,u2,u3⟩:=n37_Print_eq hr h.sets h.each h.word
  have:t=u:=RatText.inj t2 u1
  subst this
  have e:=report_Print_eq hr t1 t3 h.sets h.each
  have hp2:properB (decide (nat32 v.2.2.2.2.2.1≤denN (nat32 v.2.2.2.2.2.2))) v=true:=hp
  rw [if_pos hp2] at e
  rw [if_pos hp] at u3
  obtain ⟨l1,l2⟩:=textL_len hp t3
  exact ⟨_,e,u3,fun _=>by unfold textL; simp,by show (textL t v).length≤_; omega,l2⟩
 ·have hv:(v.1,v.2.1,v.2.2.1,v.2.2.2.1,v.2.2.2.2.1,(v.2.2.2.2.2.1,v.2.2.2.2.2.2))=v:=rfl
  refine ⟨([],1),?_,?_,(fun h=>by cases h),by simp,by simp⟩
  ·unfold report_Print; rw [hv,h1]; rfl
  ·unfold culpritref37_Print; rw [hv,h2]; rfl
theorem prints_as : ∃ f:Vd→List (List UInt8)×Int,∀ v,AnyV v→PrintsAs f v∧culpritref37_Print v=some (f v):=by
 have h : ∀ v:Vd,∃ r:List (List UInt8)×Int,AnyV v→report_Print v=some r∧culpritref37_Print v=some r∧(r.2=0→r.1≠[])∧r.1.length≤1100∧∀ s∈r.1,s.length≤13000:=fun v=>by
  by_cases hv:AnyV v
  ·obtain ⟨r,hr⟩:=print_any2 hv
   exact ⟨r,fun _=>hr⟩
  ·exact ⟨([],0),fun h=>absurd h hv⟩
 obtain ⟨f,hf⟩:=Classical.axiomOfChoice h
 exact ⟨f,fun v hv=>⟨⟨(hf v hv).1,(hf v hv).2.2.1,(hf v hv).2.2.2.1,(hf v hv).2.2.2.2⟩,(hf v hv).2.1⟩⟩
theorem n37_page_inner {x:List (List UInt8)} {e:Int} {acc:List UInt8} (hc:x.length≤1100) (hl : ∀ s∈x,s.length≤13000) (ha:acc.length≤200000000000) :
  Itr.it (culpritref37_Page_loop2 (x,e)) (acc,(0:Int))=some (acc++rowsT x):=by
 have h:=it_fold (f:=culpritref37_Page_loop2 (x,e)) (fun i (a:List UInt8)=>(a,i)) x (fun a s=>a++s++[10]) (fun a=>a) (fun i a=>a.length≤acc.length+i * 13001) (by omega)
  (fun i s a hx hI=>by
   have hi:=lt_of_at hx
   have hs:=hl s (List.mem_of_getElem? hx)
   unfold culpritref37_Page_loop2
   simp only
   rw [dec_t (show (i:Int)<(x.length:Int) by omega),cond_true,idx_nat hx]
   simp only [Option.bind_some]
   rw [chk_d (by omega),chk_d (by rw [List.length_append]; show _+1≤_; omega),w64_id (by omega) (by omega)]
   refine ⟨rfl,?_⟩
   simp only [List.length_append,List.length_singleton]
   rw [Nat.add_mul]
   omega)
  (fun a _=>by
   unfold culpritref37_Page_loop2
   simp only
   rw [dec_f (by omega)]
   rfl) (a:=acc) (by omega)
 rw [show ((acc,(0:Int)):List UInt8×Int)=(fun i (a:List UInt8)=>(a,i)) (0:Int) acc from rfl,h]
 congr 1
 clear h hc hl ha
 induction x generalizing acc with
 | nil=>simp [rowsT]
 | cons s r ih=>
  rw [List.foldl_cons,ih]
  simp [rowsT]
theorem page_ref {f:Vd→List (List UInt8)×Int} {l:List Vd} (h : ∀ v∈l,PrintsAs f v) (hr : ∀ v∈l,culpritref37_Print v=some (f v)):culpritref37_Page l=some (pageA f l):=by
 unfold culpritref37_Page pageA
 by_cases h64:64<l.length
 ·rw [if_pos h64,dec_t (show (64:Int)<(l.length:Int) by omega)]; rfl
 ·rw [if_neg h64,dec_f (show ¬ (64:Int)<(l.length:Int) by omega),cond_false]
  have hloop:=it_runL (f:=culpritref37_Page_loop1 l) (R:=List UInt8⊕(List UInt8×Int)) (fun i (a:List UInt8)=>(a,i)) l
   (fun a v=>if (f v).2=0 then .inl (a++partT (f v).1) else .inr (.inr ([],(f v).2))) (fun a=>.inl a) (fun i a=>a.length≤i * 15000000) (by omega)
   (fun i v a hx hI=>by
    have hi:=lt_of_at hx
    have hv:=h v (List.mem_of_getElem? hx)
    have hp:=part_len hv
    unfold culpritref37_Page_loop1
    simp only
    rw [dec_t (show (i:Int)<(l.length:Int) by omega),cond_true,idx_nat hx]
    simp only [Option.bind_some]
    rw [show (v.1,v.2.1,v.2.2.1,v.2.2.2.1,v.2.2.2.2.1,(v.2.2.2.2.2.1,v.2.2.2.2.2.2))=v from rfl,hr v (List.mem_of_getElem? hx)]
    simp only [Option.bind_some]
    by_cases h0:(f v).2=0
    ·have hin:=n37_page_inner (e:=(f v).2) (acc:=a) hv.cnt hv.len (by omega)
     have hpl:(partT (f v).1).length=(rowsT (f v).1).length+1:=by simp [partT]
     rw [show ((f v).2 != 0)=false by simp [h0],cond_false,show f v=((f v).1,(f v).2) from rfl,hin]
     simp only [Option.bind_some]
     rw [chk_d (by rw [List.length_append]; show _+1≤_; omega)]
     simp only [Option.bind_some]
     rw [w64_id (by omega) (by omega),if_pos h0]
     have e:a++rowsT (f v).1++S__01ba=a++partT (f v).1:=by simp [partT,S__01ba]
     rw [e]
     refine ⟨rfl,fun a' ha' => ?_⟩
     cases ha'
     simp only [List.length_append]
     rw [Nat.add_mul]
     omega
    ·rw [show ((f v).2 != 0)=true by simp [h0],cond_true,if_neg h0]
     exact ⟨rfl,fun a' ha' => by cases ha'⟩)
   (fun a _=>by
    unfold culpritref37_Page_loop1
    simp only
    rw [dec_f (by omega)]
    rfl) (a:=[]) (by simp)
  rw [show ((([]:List UInt8),(0:Int)):List UInt8×Int)=(fun i (a:List UInt8)=>(a,i)) (0:Int) [] from rfl,hloop]
  simp only [Option.bind_some]
  have gen : ∀ (l:List Vd) (acc:List UInt8),(match runL (fun a v=>if (f v).2=0 then .inl (a++partT (f v).1) else .inr (.inr ([],(f v).2))) (fun a=>(.inl a:List UInt8⊕(List UInt8×Int))) l acc with
   | .inl s1=>(bif decide ((65536:Int)<(s1.length:Int)) then some (([]:List UInt8),(4:Int)) else some (s1,0))
   | .inr t=>some t)=some (pageF f l acc):=by
   intro l
   induction l with
   | nil=>
    intro acc
    simp only [runL,pageF]
    by_cases h6:65536<acc.length
    ·rw [if_pos h6,dec_t (by omega)]; rfl
    ·rw [if_neg h6,dec_f (by omega)]; rfl
   | cons v r ih=>
    intro acc
    simp only [runL,pageF]
    by_cases h0:(f v).2=0
    ·rw [if_pos h0,if_pos h0]; exact ih _
    ·rw [if_neg h0,if_neg h0]
  exact gen l []
theorem n37_Rows_eq {s:List UInt8} (hs:s.length≤65536):culpritref37_Rows s=some (rowsR s,endedB s):=by
 have hloop:=it_fold (f:=culpritref37_Rows_loop1 s) (fun i (a:List Rw×Rw×List UInt8)=>(a.1,a.2.1,a.2.2,i)) s stepC (fun a=>a) (fun i a=>RowOk i a) (by omega)
  (fun i b a hx hI=>by
   have hi:=lt_of_at hx
   obtain ⟨h1,h2,h3,h4,h5⟩:=hI
   refine ⟨?_,RowOk.step ⟨h1,h2,h3,h4,h5⟩ b⟩
   unfold culpritref37_Rows_loop1
   simp only
   rw [dec_t (show (i:Int)<(s.length:Int) by omega),cond_true,idx_nat hx]
   simp only [Option.bind_some]
   have hw:w64 ((i:Int)+1)=(((i+1:Nat)):Int):=by rw [w64_id (by omega) (by omega)]; omega
   have hone:((s.take (i+1)).drop i)=[b]:=by
    rw [List.drop_take,show i+1 - i=1 by omega,List.take_one,List.head?_drop,hx]
    rfl
   rw [hw,Int.toNat_natCast,Int.toNat_natCast,hone]
   unfold stepC stepW
   by_cases hb:b=10
   ·subst hb
    rw [show (((10:UInt8).toNat:Int) != (10:Int))=false from by decide,cond_false,if_pos rfl]
    by_cases hl:a.2.2=[]
    ·rw [hl,if_pos rfl,show (([]:List UInt8)==[])=true from rfl,cond_true,chk_t (appOk_le (by simp only [List.length_singleton]; omega) (by omega))]
     rfl
    ·rw [if_neg hl,show (a.2.2==[])=false from by rw [beq_eq_false_iff_ne]; exact hl,cond_false,chk_t (appOk_le (by simp only [List.length_singleton]; omega) (by omega))]
     rfl
   ·have hb2:((b.toNat:Int) != (10:Int))=true:=by
     rw [bne_iff_ne]
     intro e
     exact hb (UInt8.toNat_inj.1 (by show b.toNat=10; omega))
    rw [hb2,cond_true,if_neg hb,chk_d ⟨by omega,by omega,by omega⟩,chk_d (by simp only [List.length_singleton]; omega)]
    rfl)
  (fun a _=>by
   unfold culpritref37_Rows_loop1
   simp only
   rw [dec_f (by omega)]
   rfl) (a:=([],[],[])) ⟨by simp,by simp,by simp,by simp,by simp⟩
 obtain ⟨h1,h2,h3,h4,h5⟩:=rowsC_ok s
 unfold culpritref37_Rows
 rw [show (([]:List Rw),([]:Rw),([]:List UInt8),(0:Int))=(fun i (a:List Rw×Rw×List UInt8)=>(a.1,a.2.1,a.2.2,i)) (0:Int) ([],[],[]) from rfl,hloop]
 simp only [Option.bind_some]
 show (bif bif (rowsC s).2.2==[] then ((rowsC s).2.1.length:Int)==0 else false then some ((rowsC s).1,true) else _)=_
 have e:(bif (rowsC s).2.2==[] then ((rowsC s).2.1.length:Int)==0 else false)=endedB s:=by
  unfold endedB
  by_cases ha:(rowsC s).2.2=[]
  ·rw [ha,show (([]:List UInt8)==[])=true from rfl,cond_true,nil_len]
   simp
  ·rw [show ((rowsC s).2.2==[])=false from by rw [beq_eq_false_iff_ne]; exact ha,cond_false,dec_f ha]
   rfl
 rw [e]
 unfold rowsR
 cases he:endedB s
 ·rw [cond_false]
  show chk (appOk (rowsC s).1.length 1 24) (some ((rowsC s).1++[(rowsC s).2.1],false))=_
  rw [chk_t (appOk_le (by omega) (by omega))]
  rfl
 ·rfl
theorem n37_read_loop {rows:List Rw} {ended:Bool} (hn:rows.length≤64) (hr : ∀ r∈rows,r.length≤65536∧∀ x∈r,x.length≤65536) :
  Itr.it (culpritref37_Read_loop1 (rows,ended)) (([]:List Vd),(0:Int))=some (runL (readG rows.length ended) (fun a=>.inl a.2) rows (0,[])):=by
 have key:=@it_runL Rw (Nat×List Vd) (List Vd⊕(List Vd×Int×Int)) (List Vd×Int) (culpritref37_Read_loop1 (rows,ended)) (fun i a=>(a.2,i)) rows (readG rows.length ended) (fun a=>.inl a.2) (fun i a=>a.1=i∧a.2.length=i) (by omega)
 refine key (fun i x a hx hI=>?_) (fun a _=>?_) (a:=(0,[])) ⟨rfl,rfl⟩
 ·have hi:=lt_of_at hx
  obtain ⟨k,out⟩:=a
  obtain ⟨h1,h2⟩:=hI
  simp only at h1 h2
  subst h1
  obtain ⟨hx1,hx2⟩:=hr x (List.mem_of_getElem? hx)
  obtain ⟨m,hm⟩:=few_ex (x:=x) (fun s hs=>by have:=hx2 s hs; omega)
  have hp:=n37_Parse_eq (gcdAll m) hm (by show x.length<_; omega)
  unfold culpritref37_Read_loop1
  simp only
  rw [dec_t (show (k:Int)<(rows.length:Int) by omega),cond_true,idx_nat hx]
  simp only [Option.bind_some]
  rw [hp]
  simp only [Option.bind_some]
  have hc:=read_cond (e:=(parseL x).2.2) (b:=ended) hi hn
  rw [cond_id] at hc
  rw [hc]
  unfold readG
  by_cases h:(parseL x).2.2≠0∨(k+1=rows.length∧ended=false)
  ·rw [dec_t h,cond_true,if_pos h]
   exact ⟨rfl,fun a' ha' => by cases ha'⟩
  ·rw [dec_f h,cond_false,if_neg h,chk_t (appOk_le (by simp only [List.length_singleton]; omega) (by omega)),w64_id (by omega) (by omega)]
   refine ⟨rfl,fun a' ha' => ?_⟩
   cases ha'
   exact ⟨rfl,by simp only [List.length_append,List.length_singleton]; omega⟩
 ·unfold culpritref37_Read_loop1
  simp only
  rw [dec_f (by omega)]
  rfl
theorem read_ref {s:List UInt8}:culpritref37_Read s=some (readR s):=by
 unfold culpritref37_Read readR
 by_cases h1:65536<s.length
 ·rw [if_pos h1,dec_t (by omega)]; rfl
 ·rw [if_neg h1,dec_f (by omega),cond_false,n37_Rows_eq (by omega)]
  simp only [Option.bind_some]
  by_cases h2:64<(rowsR s).length
  ·rw [if_pos h2,dec_t (by omega)]; rfl
  ·obtain ⟨_,ho⟩:=rowsR_ok s
   rw [if_neg h2,dec_f (by omega),cond_false,n37_read_loop (by omega) (fun r hr=>⟨by have:=(ho r hr).1; omega,fun x hx=>by have:=(ho r hr).2 x hx; omega⟩)]
   simp only [Option.bind_some]
   unfold readT
   cases runL (readG (rowsR s).length (endedB s)) (fun a=>.inl a.2) (rowsR s) (0,[]) <;> rfl
end Go.Proofs.YtknnphhepnbaoaaGreatDoor
