/-
  The symbolic evaluator: parts of values, slices of slices, slices of their elements, calls by contract. Nothing of a program is named here; no condition.
-/
import Derived.Test.YtknnphhepnbaoaaGreatDoorRfF
namespace Go.Sm
set_option linter.unusedSectionVars false
section
variable [X:XTab] [G:GTab]
section
variable {R:Type} {P:Program} {o:Oper} {E:SE} {F:List AF} {n:Nat} {Θ:Tb} {ex:Option Bool}
def sFieldV (Θ:Tb) (t:TypeId) (f:Nat) (v:AV) (k:Out→Option R):Option R:=match Θ t,v with
 | some ⟨.st fs,_,_,_,_⟩, .ag ls=>match fs[f]? with
  | some (ft,off)=>match Θ ft with
   | some i=>match cut off i.sz ls with
    | some (_,m,_)=>match ofL i.d.agg m with
     | some u=>k (pureO u)
     | none=>none
    | none=>none
   | none=>none
  | none=>none
 | _,_=>none
theorem cut_cells {off sz:Nat} {cs a m r:List Lf} (h:cut off sz cs=some (a,m,r)) (η:Vn):((cellsL η cs).drop off).take sz=cellsL η m∧(cellsL η m).length=sz:=by
 obtain ⟨e,hl⟩:=cut_ok h
 obtain ⟨l1,l2⟩:=hl η
 refine ⟨?_,l2⟩
 rw [e,cellsL_append,cellsL_append,List.append_assoc,List.drop_append,List.drop_eq_nil_of_le (by omega),show off - (cellsL η a).length=0 by omega,List.drop_zero,List.nil_append,List.take_append,List.take_of_length_le (by omega),
  show sz - (cellsL η m).length=0 by omega,List.take_zero,List.append_nil]
theorem sFieldV_ok (hΘ:Θ.ok P) {t:TypeId} {x:Operand} {f:Nat} {v:AV} (ho:o.op = .field t x f) (h1:ev E x=some v) (k:Out→Option R):Snd ex P o E F n (sFieldV Θ t f v k) k:=by
 unfold sFieldV
 split
 ·rename_i fs _ _ _ _ ls ht
  split
  ·rename_i ft off hf
   split
   ·rename_i i hi
    split
    ·rename_i a m r hc
     split
     ·rename_i u hu
      refine Snd.of fun hx=>(OpS.pure fun η ρ hE=>?_)
      obtain ⟨Fd,hs,hm⟩:=(hΘ t _ ht).2.1
      obtain ⟨fd,hfd,hft,hoff⟩:=field_get hm hf
      obtain ⟨g1,g2,_,_⟩:=hΘ ft i hi
      obtain ⟨td,hut,hd⟩:=fits_agg g2
      rw [← hft] at g1 hut
      obtain ⟨hcell,l2⟩:=cut_cells hc η
      have he:=ev_ok hE h1
      simp only [AV.val] at he
      cases hag:i.d.agg
      ·rw [hag] at hu hd
       obtain ⟨l,rfl,rfl,hl1⟩:=ofL_one hu η
       refine p_field1 ho hs hfd hut hd he ?_
       have h5:cellsL η [l]=[(AV.lf l).val η]:=by simp [cellsL,hl1]
       rw [h5] at hcell l2
       have:=congrArg (·[0]?) hcell
       simp only [List.getElem?_take,List.getElem?_drop,Nat.add_zero,List.length_singleton] at this l2
       rw [hoff]
       simpa [← l2] using this
      ·rw [hag] at hu hd
       rw [ofL_agg hu η]
       refine p_fieldN ho hs hfd hut hd g1 he ?_
       rw [hoff]; exact hcell
     ·exact Snd.none
    ·exact Snd.none
   ·exact Snd.none
  ·exact Snd.none
 ·exact Snd.none
def sIndexV (Θ:Tb) (ex:Option Bool) (t:TypeId) (v:AV) (i:Int) (k:Out→Option R):Option R:=match Θ t,v with
 | some ⟨.str,_,_,_,_⟩, .lf (.c .str s)=>gbind ex 0 (idx s i) fun b=>k (pureO (intL .u8 (b.toNat:Int)))
 | some ⟨.arr m e,_,_,_,_⟩, .lf (.ar m' s x)=>match Θ e with
  | some ie=>bif Nat.beq ie.sz 1&&Nat.beq m m' && !ie.d.agg then gchk ex (decide (0≤i∧i<m')) (k (pureO (.lf (.c s (List.getD (α:=s.den) x i.toNat s.dft))))) else none
  | none=>none
 | _,_=>none
theorem sIndexV_ok (hΘ:Θ.ok P) {t:TypeId} {x y:Operand} {ki:IntKind} {i:Int} {v:AV} (ho:o.op = .index t x y) (h1:ev E x=some v) (h2:ev E y=some (intL ki i)) (k:Out→Option R):Snd ex P o E F n (sIndexV Θ ex t v i k) k:=by
 unfold sIndexV
 split
 ·rename_i _ _ _ _ s ht
  exact Snd.gbind fun b hb=>Snd.of fun hx=>(OpS.pure fun η ρ hE=>p_index_str ho (hΘ t _ ht).2.1 (ev_ok hE h1) (ev_ok hE h2) (hb hx))
 ·rename_i m e _ _ _ _ m' s xs ht
  split
  ·rename_i ie he
   refine Snd.bif fun hc=>Snd.gchk fun hb=>Snd.of fun hx=>(OpS.pure fun η ρ hE=>?_)
   simp only [Bool.and_eq_true,Bool.not_eq_true'] at hc
   obtain ⟨⟨hs1,hm⟩,hag⟩:=hc
   obtain rfl:=Nat.eq_of_beq_eq_true hm
   obtain ⟨g1,g2,_,_⟩:=hΘ e ie he
   obtain ⟨td,hut,hd⟩:=fits_agg g2
   rw [hag] at hd
   rw [Nat.eq_of_beq_eq_true hs1] at g1
   exact p_index_arr ho (hΘ t _ ht).2.1 hut hd g1 (ev_ok hE h1) (ev_ok hE h2) (hb hx)
  ·exact Snd.none
 ·exact Snd.none
def sExtract (v:AV) (i:Nat) (k:Out→Option R):Option R:=match v with
 | .tu vs=>match vs[i]? with
  | some u=>k (pureO u)
  | none=>none
 | _=>none
theorem vals_get {η:Vn} : ∀ {vs:List AV} {i:Nat} {u:AV},vs[i]? = some u→(AV.vals η vs)[i]? = some (u.val η)
 | [],_,_,h=>by simp at h
 | v::r,0,u,h=>by simp at h; subst h; simp [AV.vals]
 | v::r,i+1,u,h=>by simp at h; simp [AV.vals,vals_get h]
theorem sExtract_ok {x:Operand} {i:Nat} {v:AV} (ho:o.op = .extract x i) (h1:ev E x=some v) (k:Out→Option R):Snd ex P o E F n (sExtract v i k) k:=by
 unfold sExtract
 split
 ·rename_i vs
  split
  ·rename_i u hu
   refine Snd.of fun hx=>(OpS.pure fun η ρ hE=>?_)
   have he:=ev_ok hE h1
   simp only [AV.val] at he
   exact p_extract ho he (vals_get hu)
  ·exact Snd.none
 ·exact Snd.none
def sConv (Θ:Tb) (s d:TypeId) (v:AV) (k:Out→Option R):Option R:=match Θ s,Θ d,v with
 | some ⟨.int _,_,_,_,_⟩,some ⟨.int kd,_,_,_,_⟩, .lf (.c (.int _) a)=>k (pureO (intL kd (w_ kd a)))
 | some ⟨.str,_,_,_,_⟩,some ⟨.str,_,_,_,_⟩, .lf (.c .str a)=>k (pureO (strL a))
 | _,_,_=>none
theorem sConv_ok (hΘ:Θ.ok P) {s d:TypeId} {x:Operand} {v:AV} (ho:o.op = .convert s d x) (h1:ev E x=some v) (k:Out→Option R):Snd ex P o E F n (sConv Θ s d v k) k:=by
 unfold sConv
 split
 ·rename_i ks _ _ _ _ kd _ _ _ _ kk a hs hd
  refine Snd.of fun hx=>(OpS.pure fun η ρ hE=>?_)
  simp only [AV.val,Lf.val,w_eq]
  exact p_conv ho (hΘ s _ hs).2.1 (hΘ d _ hd).2.1 (ev_ok hE h1)
 ·rename_i _ _ _ _ _ _ _ _ a hs hd
  refine Snd.of fun hx=>(OpS.pure fun η ρ hE ev w c he _=>?_)
  have hs' := (hΘ s _ hs).2.1
  have hd' := (hΘ d _ hd).2.1
  have h2:=ev_ok hE h1
  subst he
  simp only [AV.val,Lf.val] at h2 ⊢
  simp [execOp,ho,h2,convert,run_underlying hs',run_underlying hd',Result.andThen]
 ·exact Snd.none
def sUn (op:UnOp) (v:AV) (k:Out→Option R):Option R:=match op,v with
 | .not, .lf (.c .bool b)=>k (pureO (boolL (!b)))
 | .neg, .lf (.c (.int kk) a)=>k (pureO (intL kk (w_ kk (0 - a))))
 | .xor, .lf (.c (.int kk) a)=>k (pureO (intL kk (bitI .xor kk (if kk.signed then -1 else kk.max) a)))
 | _,_=>none
theorem sUn_ok {op:UnOp} {t:TypeId} {x:Operand} {v:AV} (ho:o.op = .unOp op t x) (h1:ev E x=some v) (k:Out→Option R):Snd ex P o E F n (sUn op v k) k:=by
 unfold sUn
 split
 ·exact Snd.of fun hx=>(OpS.pure fun η ρ hE=>p_not ho (ev_ok hE h1))
 ·refine Snd.of fun hx=>(OpS.pure fun η ρ hE=>?_)
  simp only [AV.val,Lf.val,w_eq]
  exact p_neg ho (ev_ok hE h1)
 ·refine Snd.of fun hx=>(OpS.pure fun η ρ hE ev w c he _=>?_)
  have h:=ev_ok hE h1
  simp only [AV.val,Lf.val] at h ⊢
  subst he
  simp [execOp,ho,h,Op.unary,Op.intBits,bitI,Result.andThen]
 ·exact Snd.none
def sSlice (Θ:Tb) (E:SE) (ex:Option Bool) (n:Nat) (t:TypeId) (l:Lf) (lo hi:Option Operand) (F:List AF) (k:Out→Option R):Option R:=match Θ t with
 | some ⟨.slice e,_,_,_,_⟩=>match Θ e with
  | some ie=>bif Nat.beq ie.sz ie.tc.ty.sz then match lo,hi with
   | none,some h=>match ownI ie.tc e 0 F l,ev E h with
    | some (ci,K,xs),some (.lf (.c (.int _) j))=>bif Nat.ble 2 ci then gchk ex (decide (0≤j∧j≤xs.length)) (k ⟨.lf (.sl n),[.own ie.tc e ci K (xs.take j.toNat) n],[]⟩) else none
    | none,some (.lf (.c (.int _) j))=>match lfI ie.tc F l with
     | some s=>gchk ex (decide (0≤(0:Int)∧0≤j∧j≤s.xs.length)) (k ⟨.lf (.sl n),[.rep ie.tc s.all ((s.xs.take j.toNat).drop (0:Int).toNat) n],[]⟩)
     | none=>none
    | _,_=>none
   | some h0,none=>match lfI ie.tc F l,ev E h0 with
    | some s,some (.lf (.c (.int _) i))=>gchk ex (decide (0≤i∧i≤(s.xs.length:Int)∧(s.xs.length:Int)≤s.xs.length)) (k ⟨.lf (.sl n),[.rep ie.tc s.all ((s.xs.take (s.xs.length:Int).toNat).drop i.toNat) n],[]⟩)
    | _,_=>none
   | some h0,some h=>match lfI ie.tc F l,ev E h0,ev E h with
    | some s,some (.lf (.c (.int _) i)),some (.lf (.c (.int _) j))=>gchk ex (decide (0≤i∧i≤j∧j≤s.xs.length)) (k ⟨.lf (.sl n),[.rep ie.tc s.all ((s.xs.take j.toNat).drop i.toNat) n],[]⟩)
    | _,_,_=>none
   | none,none=>none
   else none
  | none=>none
 | _=>none
theorem sSlice_ok (hΘ:Θ.ok P) {t:TypeId} {x:Operand} {l:Lf} {lo hi:Option Operand} (ho:o.op = .slice t x lo hi none) (h1:ev E x=some (.lf l)) (k:Out→Option R):Snd ex P o E F n (sSlice Θ E ex n t l lo hi F k) k:=by
 have key : ∀ {e:TypeId} {ie:TInf} {s:SI ie.tc} {i j:Int} {klo khi:IntKind},P.underlying t=some (.slice e)→Θ e=some ie→Nat.beq ie.sz ie.tc.ty.sz=true→lfI ie.tc F l=some s →
   (∀ η ρ,EnvOk η ρ E→lo.elim (i=0) (fun q=>evo ρ q = .int klo i))→(∀ η ρ,EnvOk η ρ E→hi.elim (j=s.xs.length) (fun q=>evo ρ q = .int khi j))→decide (0≤i∧i≤j∧j≤s.xs.length)=true →
   OpS0 P o E F n ⟨.lf (.sl n),[.rep ie.tc s.all ((s.xs.take j.toNat).drop i.toNat) n],[]⟩:=by
  intro e ie s i j klo khi ht he hsz hs hlo hhi hb η ρ hE
  have h2:=ev_ok hE h1
  simp only [AV.val] at h2
  rw [(lfI_val hs η).1] at h2
  have:=(ok_slice (o:=o) (ρ:=ρ) (L:=.rep ie.tc.ty s.all s.xs (l.hd η)::F.map (AF.ha η)) (klo:=klo) (khi:=khi) 0 rfl ho ht (hΘ e ie he).1 (Nat.eq_of_beq_eq_true hsz) h2 (hlo η ρ hE) (hhi η ρ hE) hb).from (fun w c hH=>Heap.cons (lfI_rep hs hH) hH)
  refine this.map (fun _=>⟨η.setH n ((l.hd η).cut i.toNat j.toNat ie.sz),η.setH_agr n _⟩) (fun _=>?_) fun _=>?_
  ·simp [AV.val,Lf.val,Vn.setH_at]
  ·simp [AF.ha,Vn.setH_at]
 unfold sSlice
 split
 ·rename_i e _ _ _ _ ht
  have ht' : P.underlying t=some (.slice e):=(hΘ t _ ht).2.1
  split
  ·rename_i ie he
   refine Snd.bif fun hsz=>?_
   split
   ·rename_i hlo h
    split
    ·rename_i ci K xs kk j hs hj
     refine Snd.bif fun _=>Snd.gchk fun hb=>Snd.of fun hx η ρ hE=>?_
     have h2:=ev_ok hE h1
     simp only [AV.val] at h2
     rw [ownI_val hs η] at h2
     have:=(ok_slice_own (o:=o) (ρ:=ρ) (L:=.own ie.tc.ty e ci K xs (l.hd η)::F.map (AF.ha η)) 0 rfl ho ht' (hΘ e ie he).1 (Nat.eq_of_beq_eq_true hsz) h2 (ev_ok hE hj) (hb hx)).from (fun w c hH=>Heap.cons (ownI_own hs hH) hH)
     refine this.map (fun _=>⟨η.setH n ((l.hd η).cut 0 j.toNat ie.sz),η.setH_agr n _⟩) (fun _=>?_) fun _=>?_
     ·simp [AV.val,Lf.val,Vn.setH_at]
     ·simp [AF.ha,Vn.setH_at]
    ·rename_i kk j _ hj
     split
     ·rename_i s hs
      exact Snd.gchk fun hb=>Snd.of fun hx=>key (klo:=.i64) ht' he hsz hs (fun _ _ _=>rfl) (fun η ρ hE=>ev_ok hE hj) (hb hx)
     ·exact Snd.none
    ·exact Snd.none
   ·rename_i h0
    split
    ·rename_i s kk i hs hi0
     exact Snd.gchk fun hb=>Snd.of fun hx=>key (khi:=.i64) ht' he hsz hs (fun η ρ hE=>ev_ok hE hi0) (fun _ _ _=>rfl) (hb hx)
    ·exact Snd.none
   ·rename_i h0 h
    split
    ·rename_i s k1 i k2 j hs hi0 hj
     exact Snd.gchk fun hb=>Snd.of fun hx=>key ht' he hsz hs (fun η ρ hE=>ev_ok hE hi0) (fun η ρ hE=>ev_ok hE hj) (hb hx)
    ·exact Snd.none
   ·exact Snd.none
  ·exact Snd.none
 ·exact Snd.none
def datN (F:List AF) (t:TC):Nat→List Lf→Option (List t.den×List (List Lf)×List Nat)
 | 0,[]=>some ([],[],[])
 | 0,_::_=>none
 | m+1,ls=>match datL F t ls with
  | some (x,l,K,r)=>match datN F t m r with
   | some (xs,ll,K2)=>some (x::xs,l::ll,K++K2)
   | none=>none
  | none=>none
theorem datN_ok {t:TC} {η:Vn} : ∀ {m:Nat} {ls:List Lf} {xs:List t.den} {ll:List (List Lf)} {K:List Nat},datN F t m ls=some (xs,ll,K) →
  xs.length=m∧ll.length=m∧cellsL η ls=cellsOf t.ty xs (ll.map fun l=>refsOf t (hdsL η l)) ∧
  ∀ (w:World) (c:Col) (K' : List Nat),Heap w c (F.map (AF.ha η))→(∀ k∈K,k∈K')→RepAll (RepR w (fun b=>c b∈K') t.ty) xs (ll.map fun l=>refsOf t (hdsL η l))
 | 0,[],xs,ll,K,h=>by
  simp only [datN,Option.some.injEq,Prod.mk.injEq] at h
  obtain ⟨rfl,rfl,rfl⟩:=h
  exact ⟨rfl,rfl,rfl,fun _ _ _ _ _=>trivial⟩
 | 0,_::_,xs,ll,K,h=>by simp [datN] at h
 | m+1,ls,xs,ll,K,h=>by
  simp only [datN] at h
  split at h
  ·rename_i x l K1 r h1
   split at h
   ·rename_i xs' ll' K2 h2
    simp only [Option.some.injEq,Prod.mk.injEq] at h
    obtain ⟨rfl,rfl,rfl⟩:=h
    obtain ⟨c1,f1⟩:=datL_ok (η:=η) t h1
    obtain ⟨e1,e2,c2,f2⟩:=datN_ok (η:=η) h2
    refine ⟨by simp [e1],by simp [e2],?_,fun w c K' hF hK=>⟨?_,?_⟩⟩
    ·simp only [List.map_cons,cellsOf]
     rw [c1,c2]
    ·exact f1 w c K' hF fun k hk=>hK k (List.mem_append_left _ hk)
    ·exact f2 w c K' hF fun k hk=>hK k (List.mem_append_right _ hk)
   ·cases h
  ·cases h
def repL (ls:List Lf):Nat→List Lf
 | 0=>[]
 | m+1=>ls++repL ls m
def sBuildS (Θ:Tb) (E:SE) (n N:Nat) (t:TypeId) (m:Nat) (ps:Array (Nat×Operand)) (F:List AF) (k:Out→Option R):Option R:=match Θ t with
 | some ⟨.slice e,_,_,_,_⟩=>match Θ e,partsF E ps.toList with
  | some ie,some vals=>match m with
   | 0=>bif vals.isEmpty&&Nat.ble 2 N then k ⟨.lf (.sl n),[.own ie.tc e N [] [] n],[]⟩ else none
   | m+1=>match fillF (fun i=>some (i * ie.sz,ie.sz)) (repL ie.zl (m+1)) vals with
    | some ls=>match datN F ie.tc (m+1) ls,cutAt ie.zl ie.sz with
     | some (xs,_,K),some (_,[])=>bif Nat.beq ie.sz ie.tc.ty.sz&&Nat.ble 2 N&&Nat.ble ((m+1) * ie.sz) 16777216&&Nat.ble 1 ie.sz then k ⟨.lf (.sl n),[.own ie.tc e N K xs n],[]⟩ else none
     | _,_=>none
    | none=>none
  | _,_=>none
 | _=>none
theorem repL_cells {η:Vn} {ls:List Lf} : ∀ m:Nat,cellsL η (repL ls m)=(List.range (m * (cellsL η ls).length)).map (fun j=>(cellsL η ls).getD (j % (cellsL η ls).length) default)
 | 0=>by simp [repL,cellsL]
 | m+1=>by
  have ih:=repL_cells (η:=η) (ls:=ls) m
  simp only [repL,cellsL_append,ih]
  rw [show (m+1) * (cellsL η ls).length=(cellsL η ls).length+m * (cellsL η ls).length by rw [Nat.add_mul]; omega,List.range_add,List.map_append]
  congr 1
  ·apply List.ext_getElem?
   intro j
   by_cases hj:j<(cellsL η ls).length
   ·simp [hj,Nat.mod_eq_of_lt hj]
   ·simp [hj]
  ·simp only [List.map_map]
   apply List.map_congr_left
   intro j _
   simp [Nat.add_mod_left]
theorem sBuildS_ok (hΘ:Θ.ok P) {N:Nat} {t:TypeId} {m:Nat} {ps:Array (Nat×Operand)} (ho:o.op = .buildSlice t m ps) (k:Out→Option R):Snd ex P o E F n (sBuildS Θ E n N t m ps F k) k:=by
 unfold sBuildS
 split
 ·rename_i e _ _ _ _ ht
  have ht' : P.underlying t=some (.slice e):=(hΘ t _ ht).2.1
  split
  ·rename_i ie vals he hp
   split
   ·refine Snd.bif fun hc=>Snd.of fun hx η ρ hE=>?_
    simp only [Bool.and_eq_true] at hc
    have hv:vals=[]:=List.isEmpty_iff.1 hc.1
    have hps:ps = #[]:=by
     have:=partsF_ok (η:=η) hE hp
     rw [hv] at this
     simp only [List.map_nil,List.map_eq_nil_iff] at this
     simpa using this
    refine (ok_buildSlice0 (K:=[]) (ty:=ie.tc.ty) ho ht' (hΘ e ie he).1 hps hc.2).map (fun hh=>⟨η.setH n hh,η.setH_agr n hh⟩) (fun hh=>?_) fun hh=>?_
    ·simp [AV.val,Lf.val,Vn.setH_at]
    ·simp [AF.ha,Vn.setH_at]
   ·rename_i m
    split
    ·rename_i ls hls
     split
     ·rename_i xs ll K q hd hcut
      refine Snd.bif fun hc=>Snd.of fun hx η ρ hE=>?_
      simp only [Bool.and_eq_true] at hc
      obtain ⟨⟨⟨hsz,hN⟩,hsm⟩,h1⟩:=hc
      obtain ⟨g1,_,g3,g4⟩:=hΘ e ie he
      obtain ⟨e2,l3⟩:=cutAt_ok hcut
      rw [List.append_nil] at e2
      subst e2
      have l3:=l3 η
      obtain ⟨d1,d2,d3,d4⟩:=datN_ok (η:=η) hd
      have hpos:=Nat.le_of_ble_eq_true h1
      have hH' : ∀ w c,Heap w c (F.map (AF.ha η))→Heap w c (factsL ie.tc.ty K xs (ll.map fun l=>refsOf ie.tc (hdsL η l))++F.map (AF.ha η)):=by
       intro w c hH
       refine Heap.append ?_ hH
       have hr:=d4 w c K hH (fun _ hk=>hk)
       clear d1 d2 d3 d4 hd hls
       revert hr
       generalize (ll.map fun l=>refsOf ie.tc (hdsL η l))=ys
       intro hr
       induction xs generalizing ys with
       | nil=>cases ys <;> exact Heap.nil _ _
       | cons x xs ih=>
        cases ys with
        | nil=>exact Heap.nil _ _
        | cons y ys=>exact (facts_of ie.tc.ty x y hr.1).append (ih ys hr.2)
      have hpaid:PaidL (factsL ie.tc.ty K xs (ll.map fun l=>refsOf ie.tc (hdsL η l))++F.map (AF.ha η)) (factsL ie.tc.ty K xs (ll.map fun l=>refsOf ie.tc (hdsL η l))):=by
       have gen : ∀ (A B:List HA),(∀ a∈A,a∈B)→PaidL B A:=by
        intro A B
        induction A with
        | nil=>intro _; trivial
        | cons a A ih=>
         intro h
         obtain ⟨j,hj⟩:=List.mem_iff_getElem?.1 (h a List.mem_cons_self)
         exact ⟨.inl ⟨j,a,hj,weak_same⟩,ih fun b hb=>h b (List.mem_cons_of_mem _ hb)⟩
       exact gen _ _ fun a ha=>List.mem_append_left _ ha
      have hfill:=fillF_ok (η:=η) hls
      rw [repL_cells,l3] at hfill
      have hzc:ie.zv.cells.toList=cellsL η ie.zl:=by rw [g3,← g4 η]
      refine ((ok_buildSlice (cells:=cellsL η ls) (ty:=ie.tc.ty) (K:=K) (xs:=xs) (ys:=ll.map fun l=>refsOf ie.tc (hdsL η l)) ho ht' g1 (Nat.eq_of_beq_eq_true hsz) hsm ?_ (partsF_ok hE hp) ?_ (by simp [d1]) (by simp [d2]) d3.symm hpaid hN).from hH').map (fun hh=>⟨η.setH n hh,η.setH_agr n hh⟩) (fun hh=>?_) fun hh=>?_
      ·refine Nat.ble_eq_true_of_le ?_
       have:1 * 1≤(m+1) * ie.sz:=Nat.mul_le_mul (by omega) hpos
       omega
      ·rw [hzc,l3]; exact hfill
      ·simp [AV.val,Lf.val,Vn.setH_at]
      ·simp [AF.ha,Vn.setH_at]
     ·exact Snd.none
    ·exact Snd.none
  ·exact Snd.none
 ·exact Snd.none
end
end
end Go.Sm
