/- Laws for the row. No condition. -/
import Derived.Test.YtgghcmbaidihjaaGreatDoorSimR
import Derived.Test.YtgghcmbaidihjaaGreatDoorProg
import Derived.Maps.RangeRun
import Derived.WalkKit
import Derived.BigCall
import Derived.ChangeMaps4
import Derived.Test.YtgghcmbaidihjaaGreatDoorCtA
import Derived.Test.YtgghcmbaidihjaaGreatDoorShelf
import Derived.WalkSmall
import Derived.Lib.AppendIntMem
namespace Go.Proofs.YtgghcmbaidihjaaGreatDoor
open Go.Sm Go.RowKit
def um(e:MapEntry):Int×Int×Bool:=match e.key,e.val with
 |.agg l,.bool v=>(intOf (l.getD 0 undef),intOf (l.getD 1 undef),v)
 |_,_=>(0,0,false)
def pb(a:Int×Int×Bool):List Value:=[.int .i64 a.1,.int .i64 a.2.1,.bool a.2.2]
def acW(w:World)(bm:Nat)(es:Array MapEntry)(clock:Nat)(v:Value)(wr:World):Prop:=
 ∃(seen:Array Nat) (c1:Nat) (d:List (Int×Int×Bool)),clock<=c1/\wr.heap[w.heap.size]?=some (.mapIter (some bm) clock seen c1)/\wr.heap[bm]?=some (.map es clock)/\Below w.heap.size w wr /\
  wr.ownsRow (w.heap.size+1) 422 3 v d.length (d.flatMap pb)/\(d++(leftOf es seen).toList.map um).Perm (es.toList.map um)
theorem EA{e:MapEntry}{p:MapEntry->Bool}(hp:p e=true):∀{l:List MapEntry},(l.map (·.born)).Nodup->e∈l->(l.filter p).Perm (e::l.filter (λx=>p x&&x.born != e.born))
 |[],_,h=>by cases h
 | x::r,hn,h=>by
  simp only[aas,al4]at hn;rcases aaa.1 h with rfl|h
  ·have hr:r.filter (λy=>p y&&y.born != e.born)=r.filter p:=by
    apply List.filter_congr;grind
   simp[hp,hr]
  ·have hx:x.born≠e.born:=λhe=>hn.1 (ZA.2 ⟨e,h,he.symm⟩);have ih:=EA hp hn.2 h;cases hpx:p x
   ·grind
   ·simp only[List.filter_cons,hpx,Bool.true_and,bne_iff_ne,ne_eq,hx,akj,aaL];exact(List.Perm.cons x ih).trans (List.Perm.swap ..)
theorem Yn{es:Array MapEntry}{seen:Array Nat}{e:MapEntry}(hn:(es.toList.map (·.born)).Nodup)(he:e∈(leftOf es seen).toList):(leftOf es seen).toList.Perm (e::(leftOf es (seen.push e.born)).toList):=by
 obtain⟨h1,h2⟩:=mem_left he;have:=EA (p:=λx=>!seen.contains x.born) (by simpa using h2) hn h1;have e2:(leftOf es (seen.push e.born)).toList=es.toList.filter (λx=>(!seen.contains x.born)&&x.born != e.born):=by simp only[leftOf,Array.toList_filter];grind
 rw[e2];simpa[leftOf,Array.toList_filter]using this
theorem YU{w wr w1 W1:World}{bm clock c1:Nat}{es:Array MapEntry}{seen:Array Nat}{b:Nat}{u:Value}{n:Nat}{xs:List Value}(hb:w.heap[bm]?=some (.map es clock))(hr:wr.heap[w.heap.size]?=some (.mapIter (some bm) clock seen c1))(hb1:wr.heap[bm]?=some (.map es clock))(hB:Below w.heap.size w wr)
  (hown:wr.ownsRow (w.heap.size+1) 422 3 u n xs) (hal:w1=wr\/w1=wr.drew) (hW1:W1=Go.ChangeMaps.setBlock w1 w.heap.size (.mapIter (some bm) clock (seen.push b) clock)) :
  W1.heap[w.heap.size]?=some (.mapIter (some bm) clock (seen.push b) clock)/\W1.heap[bm]?=some (.map es clock)/\Below w.heap.size w W1/\W1.ownsRow (w.heap.size+1) 422 3 u n xs:=by
 have hbl:bm<w.heap.size:=(aaA.1 hb).1;have hrl:w.heap.size<wr.heap.size:=(aaA.1 hr).1;have hh:W1.heap=wr.heap.setIfInBounds w.heap.size (.mapIter (some bm) clock (seen.push b) clock):=by rw[hW1];rcases hal with rfl|rfl<;>rfl
 have hoth:∀k,k≠w.heap.size->W1.heap[k]?=wr.heap[k]?:=λk hk=>by grind
 refine⟨?_,(hoth bm (by omega)).trans hb1,⟨?_,?_,?_,?_,λk hk=>(hoth k (by omega)).trans (hB.block k hk)⟩,hown.1,?_⟩
 ·grind
 ·rw[hW1];rcases hal with rfl|rfl<;>exact hB.os
 ·rw[hW1];rcases hal with rfl|rfl<;>exact hB.tape
 ·rw[hW1];rcases hal with rfl|rfl<;>exact hB.output
 ·grind
 ·rcases hown.2 with h|⟨g,cap,cur,h1,h2,h3,h4⟩
  ·exact .inl h
  ·exact .inr ⟨g,cap,cur,h1,h2,(hoth g (by omega)).trans h3,h4⟩
theorem alO{w W1 w2:World}{bm clock:Nat}{es:Array MapEntry}{seen:Array Nat}{e:MapEntry}{u v':Value}{d:List (Int×Int×Bool)}{k o:Int}{b0 v:Bool}{o1 o2:Obj}(hb:w.heap[bm]?=some (.map es clock))(hn:(es.toList.map (·.born)).Nodup)(he:e∈(leftOf es seen).toList)(hkey:e.key=.agg #[.int .i64 k,.int .i64 o,.bool b0])(hval:e.val=.bool v)
  (hr1:W1.heap[w.heap.size]?=some (.mapIter (some bm) clock (seen.push e.born) clock)) (hb2:W1.heap[bm]?=some (.map es clock)) (hB1:Below w.heap.size w W1) (hown1:W1.ownsRow (w.heap.size+1) 422 3 u d.length (d.flatMap pb))
  (hperm:(d++(leftOf es seen).toList.map um).Perm (es.toList.map um)) (hown':w2.ownsRow (w.heap.size+1) 422 3 v' (d.length+1) (d.flatMap pb++[.int .i64 k,.int .i64 o,.bool v])) (hg:((W1.alloc o1).alloc o2).grownBy w2 u.ownBlock) :
  acW w bm es clock v' w2/\w2.iterSeen w.heap.size=seen.push e.born:=by
 have hbl:bm<w.heap.size:=(aaA.1 hb).1;have hrl:w.heap.size<W1.heap.size:=(aaA.1 hr1).1;have hsz:((W1.alloc o1).alloc o2).heap.size=W1.heap.size+2:=by simp_all
 have hblk:∀k,k<=w.heap.size->w2.heap[k]?=W1.heap[k]?:=λk hk=>by
  rw[hg.block k (by grind) (λh=>?_)]
  ·show((W1.heap.push o1).push o2)[k]?=_;grind
  ·have:=(hown1.lt k h.symm).1;omega
 have hr2:=(hblk w.heap.size (Z0 _)).trans hr1;refine⟨⟨seen.push e.born,clock,d++[(k,o,v)],Z0 _,hr2,(hblk bm (by omega)).trans hb2,⟨hg.os.trans hB1.os,hg.tape.trans hB1.tape,hg.output.trans hB1.output,?_,λk hk=>(hblk k (by omega)).trans (hB1.block k hk)⟩,?_,?_⟩,?_⟩
 ·grind
 ·simpa[pb]using hown'
 ·have h1:=Yn hn he;have he':um e=(k,o,v):=by simp[um,hkey,hval,intOf]
  grind
 ·simp[World.iterSeen,hr2]
theorem YG(w:World)(bm:Nat)(es:Array MapEntry)(clock:Nat)(hb:w.heap[bm]?=some (.map es clock)):acW w bm es clock (.slice none 0 0) (w.alloc (.mapIter (some bm) clock #[] clock)):=by
 have hbl:bm<w.heap.size:=(aaA.1 hb).1;refine⟨#[],clock,[],Z0 _,?_,?_,(Below.refl _ w).alloc (Z0 _) _,World.ownsRow_nil _ _ _ _,?_⟩
 ·show(w.heap.push _)[w.heap.size]?=_;simp
 ·show(w.heap.push _)[bm]?=_;grind
 ·have:leftOf es #[]=es:=by simp[leftOf]
  grind
set_option maxHeartbeats 4000000 in
set_option maxRecDepth 100000 in
theorem aaB(w:World)(bb bm:Nat)(es:Array MapEntry)(clock:Nat)(hc:w.cell? ⟨bb,25,none⟩=some (.map (some bm)))(hb:w.heap[bm]?=some (.map es clock))(h12:es.size<=12)(hold:∀e∈es.toList,e.born<clock)(hn:(es.toList.map (·.born)).Nodup)
  (hk:∀e∈es.toList,∃k o b v,e.key=.agg #[.int .i64 k,.int .i64 o,.bool b]/\e.val=.bool v) (Q:Ending->World->Prop) (S:Value->World->Prop)
  (hsort:∀v (d:List (Int×Int×Bool)) W,W.ownsRow (w.heap.size+1) 422 3 v d.length (d.flatMap pb)->Below w.heap.size w W->d.Perm (es.toList.map um)->Calls Tryz.prog 265 #[v,.func (.func 266) #[] #[]] W λe W'=>e=.returned (.tuple #[])/\S v W')
  (hQ:∀v W,S v W->Q (.returned v) W) :
  Calls Tryz.prog 187 #[.pointer (some ⟨bb,0,none⟩)] w Q:=by
 have hrg:=run_range_map (P:=Tryz.prog) w 222 422 4 bm es clock Tryz.underlying222 hb;obtain⟨i0,hi,hz0,hz1,hz2⟩:=(show TI Tryz.prog 422 3 24 (.agg #[.int .i64 0,.int .i64 0,.bool false])from by unfold TI;kernel_rfl).get;go_enter Tryz.func187,Tryz.ntmps187;go_wp2;go_loopw [3] (λv wr=>acW w bm es clock v wr) (λ_ wr=>(leftOf es (wr.iterSeen w.heap.size)).size);case atStart=>exact YG w bm es clock hb
 case round=>
  obtain⟨seen,c1,d,hcl,hr,hb1,hB,hown,hperm⟩:=hrel
  rcases run_next_at (P:=Tryz.prog) wr 0 w.heap.size bm clock c1 seen es clock hr hb1 hold hcl with⟨h0,hrun⟩|⟨e,he,w1,hal,hrun⟩
  ·have hnx:∀ty,(Instr.next (.pointer (some ⟨w.heap.size,0,none⟩)) false ty).run Tryz.prog wr=_:=λ_=>hrun
   have hd:d.Perm (es.toList.map um):=by have:(leftOf es seen).toList=[]:=abT (by simpa using h0);rw[this]at hperm;simpa using hperm
   have hs:=hsort _ d wr hown hB hd
   go_wp2_with (go_at_call 265;refine hs.mono ?_;rintro e W1 ⟨rfl,hS⟩)
   exact hS
  ·obtain⟨W1,hW1⟩:∃W,W=Go.ChangeMaps.setBlock w1 w.heap.size (.mapIter (some bm) clock (seen.push e.born) clock):=⟨_,rfl⟩
   rw[<-hW1]at hrun
   have hnx:∀ty,(Instr.next (.pointer (some ⟨w.heap.size,0,none⟩)) false ty).run Tryz.prog wr=_:=λ_=>hrun
   obtain⟨k,o,b0,v,hkey,hval⟩:=hk e (mem_left he).1
   obtain⟨hr1,hb2,hB1,hown1⟩:=YU hb hr hb1 hB hown hal hW1
   have hen:=run_entry_at (P:=Tryz.prog) W1 w.heap.size bm clock seen es clock e hr1 hb2 (mem_left he).1 hn
   rw[hkey,hval]at hen hnx
   have hsn:wr.iterSeen w.heap.size=seen:=by simp[World.iterSeen,hr]
   clear hrun hW1 hr hb1 hown hB hal
   have hlen:d.length<=12:=by have h1:=hperm.length_eq;simp only[ZD,aes,ak8]at h1;omega
   go_wp2_with (first
    |(at_builtin;refine wpList_append_own _ rfl _ _ 238 rfl (w.heap.size+1) 422 i0 (.agg #[.int .i64 0,.int .i64 0,.bool false]) 3 24 Tryz.underlying238 hi hz0 hz1 hz2 rfl (by decide) _ _ _ rfl ((hown1.alloc _).alloc _) ⟨W1.heap.size+1,0,none⟩ 1 1 [.int .i64 k,.int .i64 o,.bool v] rfl rfl ?c1 ?c2 ?c3 ?c4 ?c5 ?_)
    |go_in)
   case c1=>
    intro j u hj
    match j,hj with
    |0,hj=>simp at hj;subst hj;simp[Addr.add]
    |1,hj=>simp at hj;subst hj;simp[Addr.add]
    |2,hj=>simp at hj;subst hj;simp[Addr.add]
   case c2=>intro u hu;simp at hu;rcases hu with rfl|rfl|rfl<;>rfl
   case c3=>unfold maxLen;omega
   case c4=>omega
   case c5=>have:=hB1.size;simp;omega
   ·intro v' w2 hown' hgrow _
    obtain⟨hJ,hseen⟩:=alO hb hn he hkey hval hr1 hb2 hB1 hown1 hperm hown' hgrow
    have hs0:wr.iterSeen w.heap.size=seen:=hsn
    clear hown' hgrow hown1 hB1 hb2 hr1
    go_wp2
    go_roundw
    case rel=>exact hJ
    case measure=>
     rw[hseen,hs0]
     exact left_shrinks es seen e he
set_option linter.unusedSectionVars false
theorem OD(u:Nat):Lib.decDigits u=if u<10 then [UInt8.ofNat (48+u)]else Lib.decDigits (u / 10)++[UInt8.ofNat (48+u%10)]:=by rw[Lib.decDigits];split<;>rfl
theorem Rq:∀(k u:Nat),1<=k->u<10 ^ k->pV k u=Lib.decDigits u
 |0,u,h,_=>by omega
 |k+1,u,_,h=>by
  rw[OD,pV];split
  ·rfl
  ·rename_i hu;rw[Rq k (u / 10) (by
    cases k with
    |zero=>simp at h;omega
    |succ k=>omega) (by rw[Nat.pow_succ]at h;omega)]
theorem YC{n:Int}(h0:0<=n)(h1:n<=9223372036854775807):pV 20 n.toNat=Lib.itoa n:=by unfold Lib.itoa;rw[if_neg (by omega),Rq 20 _ (by omega) (by omega)]
section
variable [Yc:GCx]
theorem WC{f:FuncId}{C:Sig}{x:ja C.ps}{r:d8 C.rs}(hf:∃fn cd,Tryz.prog.funcs[f]?=some fn/\fn.body=some cd/\(fn.name == "runtime.NumGoroutine")=false)(hn:gK C.rs=0)
  (h0:∀(y:List Hd) (bs:List ObH),(lg C.rs r C.ms 0).map (AF.ha (ηL y))++lJ C.rs r y C.nr bs 130=[])
  (hc:∀l:List Hd,l.length=qE C.ps->∀w c0,aj w c0 (nA C.ps x l 2++eV)->Calls Tryz.prog f (kX C.ps x l).toArray w λe w'=>e=.returned (wB C.nr C.rs r [])/\Below w.heap.size w w'):Qr Tryz.prog f C x r:=by
 refine⟨hf,λl hl w c0 hH=>(hc l hl w c0 hH).mono λe w' hh=>?_⟩;obtain⟨he,hb⟩:=hh;refine⟨⟨[],by rw[hn];rfl⟩,λb=>if b<w.heap.size then c0 b else 2,he,⟨hb.os,hb.output⟩,hb.size,λb hlt _=>⟨hb.block b hlt,by simp[hlt]⟩,λb hlt h2=>?_,?_⟩
 ·show 2<=if b<w.heap.size then c0 b else 2
  split
  ·rename_i h;exact h2 h
  ·omega
 ·have:=h0 [] (wN l C.bl);show aj w' _ ((lg C.rs r C.ms 0).map (AF.ha (ηL []))++lJ C.rs r [] C.nr (wN l C.bl) 130);rw[this];exact aj.nil _ _
theorem anc{w:World}{c:aS}{L:List HA}(hH:aj w c (L++eV)){e:GEnt}(he:e∈GTab.gl):∃ty fz,w.heap[e.g]?=some (.cells (cellsOf e.t.ty e.xs (List.replicate e.xs.length e.t.ref0)).toArray ty fz):=
 (hH _ (Z7 _ (ZW _ (ZA.2 ⟨e,he,rfl⟩)))).1
theorem apd{w:World}{c:aS}{L:List HA}(hH:aj w c (L++eV)):Lib.TabIs Tryz.prog w "internal/strconv.uint64pow10" .u64 Lib.pow10Tab:=by
 obtain⟨ty,fz,h⟩:=anc hH (e:=⟨4,.sc (.int .u64),Lib.pow10Tab⟩) (by simp[GTab.gl]);have hg:Tryz.prog.globalNamed "internal/strconv.uint64pow10" = some 4:=by kernel_rfl
 have:w.var? Tryz.prog "internal/strconv.uint64pow10" = some (cellsOf (TC.ty (.sc (.int .u64))) Lib.pow10Tab (List.replicate Lib.pow10Tab.length (TC.ref0 (.sc (.int .u64))))).toArray:=by unfold World.var?;rw[hg];simp[h]
 unfold Lib.TabIs;rw[this];rfl
theorem aj6:(⟨⟨[.d (.sc (.int .i64))],[.sc .str],1,[],[]⟩,λx=>Ed x⟩:Ctr).sound Tryz.prog 210:=by
 rintro n r h;obtain⟨h1,h2⟩:=Df h;have h3:pV 20 n.toNat=r:=by injection h2
 clear h h2;simp only[Y5,acK]at h1;subst h3;refine WC ⟨_,_,Tryz.func210,rfl,by kernel_rfl⟩ rfl (λ_ _=>rfl) λl hl w c0 hH=>?_
 refine(Tryz.strconv_Itoa n (by omega) h1.2 w (apd hH)).mono λe w' hh=>?_;obtain⟨rfl,k,os,rfl⟩:=hh;rw[<-YC h1.1 h1.2];exact⟨rfl,Lib.below_grow _ _ (Z0 _) _ _⟩
end
set_option maxRecDepth 100000
section
variable [Itr] [Yc:GCx]
class SortLaw[Itr]:Prop where
 law:∀(es:List ((Int×Int×Bool)×Bool)) (d:List (Int×Int×Bool)),qu es=true->d.Perm (es.map λp=>(p.1.1,p.1.2.1,p.2))->bZ (d,0,d.length)=some (xV es)
theorem GC:∀(d:List (Int×Int×Bool)) (rs:List af.ty.Refs),d.length=rs.length->cellsOf af.ty d rs=d.flatMap pb
 |[],[],_=>rfl
 |a::d,r::rs,h=>by have ih:=GC d rs (by simpa using h);simp only[cellsOf,aku,ih];rfl
theorem WW{w W:World}{c:aS}{v:Value}{d ys:List (Int×Int×Bool)}(hG:aj w c eV)(hB:Below w.heap.size w W)(hown:W.ownsRow (w.heap.size+1) 422 3 v d.length (d.flatMap pb))(hs:bZ (d,0,d.length)=some ys) :
  Calls Tryz.prog 265 #[v,.func (.func 266) #[] #[]] W λe W'=>e=.returned (.tuple #[])/\(∃h:Hd,v=h.val/\∃rs,ys.length=rs.length/\uY W' 422 3 v ys.length (cellsOf af.ty ys rs))/\gv w W'/\w.heap.size<=W'.heap.size/\(∀b,b<w.heap.size->W'.heap[b]?=w.heap[b]?)/\(∀g,v.ownBlock=some g->w.heap.size<=g):=by
 obtain⟨h,rfl⟩:∃h:Hd,v=h.val:=by
  rcases hown.2 with⟨rfl,_⟩|⟨g,cap,cur,rfl,_⟩
  ·exact⟨⟨none,0,0⟩,rfl⟩
  ·exact⟨⟨some ⟨g,0,none⟩,d.length,cap⟩,rfl⟩
 have hblk:∀g,h.val.ownBlock=some g->w.heap.size<g:=λg hg=>by have:=(hown.lt g hg).1;omega
 have hA:=NU ((d,0,d.length),()) ys hs;have hcall:=hA.2 [h,h] rfl W (λb=>if h.val.ownBlock=some b then 2 else if c b<=1 then c b else 0);refine(hcall ?_).mono ?_
 ·refine aj.cons ?_ (aj.cons ?_ ?_)
  ·show HA.holds _ _ (dS af.ty 422 2 [1] d h);rw[dx (eU rfl)];refine⟨d.map λ_=>af.ref0,jj (by simp) λj x y _ _=>bD.pure _ x y rfl,?_,λg hg=>by simp[hg]⟩;rw[GC _ _ (by simp)];exact w9 hown
  ·refine⟨acH _,?_,λhlt=>?_⟩
   ·rcases hown.2 with⟨hv,hn⟩|⟨g,cap,cur,hv,_⟩
    ·grind
    grind
   ·rcases hown.2 with⟨hv,hn⟩|⟨g,cap,cur,hv,_⟩
    ·grind
    ·simp only[Hd.val,Value.slice.injEq]at hv;exact⟨g,0,hv.1,by simp[dR,hv.1]⟩
  ·intro A hA;have hA:A∈eV:=hA;have hG:=hG A hA;rcases aad.1 hA with hA|hA
   ·obtain⟨x,hx,rfl⟩:=ZA.1 hA;obtain⟨⟨ty,fz,h1⟩,h2,h3⟩:=hG;have hlt:=(aaA.1 h1).1;refine⟨⟨ty,fz,(hB.block _ hlt).trans h1⟩,?_,h3⟩;grind
   ·have hst:Stp [] w c W (λb=>if b<w.heap.size then c b else 2):=⟨hB.size,λb hb _=>if_pos hb,λb hb _=>hB.block b hb,λb hb h=>by
     by_cases hl:b<w.heap.size
     ·exact absurd (h hl).1 (by simp)
     ·simp[hl],⟨hB.os,hB.output⟩⟩
    refine Yc.exm A hA W _ _ (HA.stp hst A (by simp) hG) λb hb=>?_;grind
 ·rintro e W' ⟨y,c',rfl,hS,hsz,hold,_,hH⟩;have ho:=hH _ (Z7 _ (ZK.2 rfl):dS af.ty 422 130 [] ys h∈_);rw[dx (eU rfl)]at ho;obtain⟨rs,hr,hown',_⟩:=ho;refine⟨rfl,⟨h,rfl,rs,hr.length,hown'⟩,?_,alC hB.size hsz,λb hb=>?_,λg hg=>by grind⟩
  ·exact⟨hS.1.trans hB.os,hS.2.trans hB.output⟩
  ·have hne:¬h.val.ownBlock=some b:=λhg=>by grind
   rw[(hold b (ajS hb hB.size) (by grind)).1];exact hB.block b hb
theorem Gg{η:Vn}:∀{cs:List Lf} {k:Nat} {l:Lf} {v:Value},(cs.take k).all (λl=>Nat.beq l.sz 1)=true->cs[k]?=some l->l.cells η=[v]->(au η cs)[k]?=some v
 |[],_,_,_,_,h,_=>by simp at h
 |a::r,0,l,v,_,h,hv=>by simp only[acM,no]at h;subst h;simp[au,hv]
 |a::r,k+1,l,v,ha,h,hv=>by
  simp only[ae5,acw,Y5]at ha;have hl:(a.cells η).length=1:=by rw[Lf.cells_sz];simp_all
  obtain⟨x,hx⟩:=List.length_eq_one_iff.1 hl;simp only[au,hx,List.singleton_append,afT];exact Gg ha.2 (by simpa using h) hv
def an6(b:Nat)(F:List AF):Option Nat:=match iw b F with
 |some (_,cs)=>bif(cs.take 25).all (λl=>Nat.beq l.sz 1)then match cs[(25:Nat)]? with
  |some (.mp h)=>some h
  |_=>none
  else none
 |none=>none
def WU{R:Type}(ex:Option Bool)(n N:Nat)(vs:List AV)(F:List AF)(k:Out->Option R):Option R:=match ex,vs with
 | none,[.lf (.bp b 0)]=>match an6 b F with
  |some h=>match uP af (.sc .bool) h F with
   |some s=>bif Nat.ble 2 N then ah (qu s.xs) (k ⟨.lf (.sl n),[.own af 422 N [] (xV s.xs) n],[]⟩)else none
   |none=>none
  |none=>none
 |_,_=>none
def acn:Inl:=⟨false,WU⟩
theorem akW[SortLaw]:acn.sound Tryz.prog 187:=by
 refine⟨⟨_,_,Tryz.func187,rfl,by kernel_rfl⟩,λ{R} ex n N vs F k r hr=>?_⟩;simp only[acn]at hr;unfold WU at hr;split at hr
 ·rename_i b;split at hr
  ·rename_i h hh;split at hr
   ·rename_i s hs;cases hN:Nat.ble 2 N
    ·grind
    ·rw [hN,Ze]at hr;cases hok:qu s.xs
     ·rw[hok]at hr;cases hr
     ·rw [hok]at hr;refine⟨_,hr,λ_ η w c hH=>?_⟩;unfold an6 at hh;split at hh
      ·rename_i i cs hbx;cases hsz:(cs.take 25).all (λl=>Nat.beq l.sz 1)
       ·grind
       ·rw[hsz,Ze]at hh;split at hh
        ·rename_i h' hcs;obtain rfl:=aeB hh;obtain⟨⟨ty,hbb⟩,_⟩:=hH _ (ZW _ (ZA.2 ⟨_,d6 hbx,rfl⟩));obtain⟨arr,clock,m1,m2,m3,m4,_⟩:=hH _ (ZW _ (ZA.2 ⟨_,gF hs,rfl⟩));have hcell:w.cell? ⟨η.b b,25,none⟩=some (.map (some (η.h h').blk)):=by
          rw[lj hbb];simpa using Gg (η:=η) hsz hcs rfl
         have hG:aj w c eV:=λA hA=>hH A (Z7 _ hA);have hlen:arr.size<=12:=by
          have h1:arr.size=s.xs.length:=by have:=aae List.length m2;simpa[A4]using this
          unfold qu at hok;simp_all
         have hkey:∀e∈arr.toList,∃k o b v,e.key=.agg #[.int .i64 k,.int .i64 o,.bool b]/\e.val=.bool v:=by
          intro e he;have:(e.key,e.val)∈A4 af (.sc .bool) s.xs:=by grind
          obtain⟨p,_,hp⟩:=ZA.1 this;simp only[ZC]at hp;exact⟨p.1.1,p.1.2.1,p.1.2.2,p.2,hp.1.symm,hp.2.symm⟩
         have hent:arr.toList.map um=s.xs.map λp=>(p.1.1,p.1.2.1,p.2):=by
          have h1:arr.toList.map um=(arr.toList.map λe=>(e.key,e.val)).map λq=>um ⟨q.1,q.2,0⟩:=by rw[adK];rfl
          rw[h1,show(arr.toList.map λe=>(e.key,e.val))=A4 af (.sc .bool) s.xs from m2,A4,adK];rfl
         refine aaB w (η.b b) (η.h h').blk arr clock hcell m1 hlen m3 m4 hkey _ (λv W'=>(∃h:Hd,v=h.val/\∃rs,(xV s.xs).length=rs.length/\uY W' 422 3 v (xV s.xs).length (cellsOf af.ty (xV s.xs) rs))/\gv w W'/\w.heap.size<=W'.heap.size/\(∀b,b<w.heap.size->W'.heap[b]?=w.heap[b]?)/\(∀g,v.ownBlock=some g->w.heap.size<=g)) (λv d W hown hB hp=>WW hG hB hown (SortLaw.law s.xs d hok (hent▸hp))) ?_;rintro v W ⟨⟨hd,rfl,rs,hl,ho⟩,hS,hsz',hold,hg⟩;refine⟨⟨η.setH n hd,η.setH_agr n hd⟩,λb=>if b<w.heap.size then c b else N,?_,?_,?_⟩
         ·simp[AV.val,Lf.val,Vn.setH_at]
         ·exact .mk0 hsz' (λb hb=>by simp[hb]) (λb hb _=>hold b hb) (λb h1 h2=>by simp only[if_neg (show¬b<w.heap.size by omega)];simp_all) hS
         ·refine aj.cons ?_ (aj.nil _ _);simp only[AF.ha,Vn.setH_at];rw[dx (eU rfl)];exact⟨rs,jj hl.symm λj x y _ _=>bD.pure _ x y rfl,ho,λg hgg=>by grind⟩
        ·cases hh
      ·cases hh
   ·cases hr
  ·cases hr
 ·cases hr
end
end Go.Proofs.YtgghcmbaidihjaaGreatDoor
