/- Laws for the row. No condition. -/
import Derived.Test.YtgghcmbaidihjaaGreatDoorSimR
import Derived.Test.YtgghcmbaidihjaaGreatDoorProg
import Derived.Maps.RangeRun
import Derived.WalkKit
import Derived.BigCall
import Derived.ChangeMaps4
import Derived.Test.YtgghcmbaidihjaaGreatDoorCtA
import Derived.Test.YtgghcmbaidihjaaGreatDoorShelf
import Derived.WalkSmall
import Derived.Lib.AppendIntMem
namespace Go.Proofs.YtgghcmbaidihjaaGreatDoor
open Go.Sm Go.RowKit
variable {w:World} {es:Array MapEntry} {seen:Array Nat} {c:aS}
def xr(e:MapEntry):Int×Int×Bool:=match e.key,e.val with
 |.agg l,.bool v=>(intOf (l.getD 0 undef),intOf (l.getD 1 undef),v)
 |_,_=>(0,0,false)
def qU(a:Int×Int×Bool):List Value:=[.int .i64 a.1,.int .i64 a.2.1,.bool a.2.2]
def ahY(w:World)(a:Nat)(es:Array MapEntry)(clock:Nat)(v:Value)(wr:World):Prop:=
 ∃(seen:Array Nat) (b:Nat) (d:List (Int×Int×Bool)),clock<=b/\wr.heap[w.heap.size]?=some (.mapIter (some a) clock seen b)/\wr.heap[a]?=some (.map es clock)/\Below w.heap.size w wr /\
  wr.ownsRow (w.heap.size+1) 422 3 v d.length (d.flatMap qU)/\(d++(leftOf es seen).toList.map xr).Perm (es.toList.map xr)
theorem FT{e:MapEntry}{p:MapEntry->Bool}(d:p e=true):∀{l:List MapEntry},(l.map (·.born)).Nodup->e∈l->(l.filter p).Perm (e::l.filter (λx=>p x&&x.born != e.born))
 |[],_,h=>by cases h
 | x::r,a,h=>by
  simp only[aev,aqO]at a;rcases aen.1 h with rfl|h
  ·have g:r.filter (λy=>p y&&y.born != e.born)=r.filter p:=by
    apply List.filter_congr;grind
   simp[d,g]
  ·have i:x.born≠e.born:=λf=>a.1 (acG.2 ⟨e,h,f.symm⟩);have j:=FT d a.2 h;cases b:p x
   ·grind
   ·simp only[List.filter_cons,b,Bool.true_and,bne_iff_ne,ne_eq,i,aku,aeP];exact(List.Perm.cons x j).trans (List.Perm.swap ..)
theorem ads{e:MapEntry}(g:(es.toList.map (·.born)).Nodup)(f:e∈(leftOf es seen).toList):(leftOf es seen).toList.Perm (e::(leftOf es (seen.push e.born)).toList):=by
 obtain⟨b,d⟩:=mem_left f;have:=FT (p:=λx=>!seen.contains x.born) (by simpa using d) g b;have a:(leftOf es (seen.push e.born)).toList=es.toList.filter (λx=>(!seen.contains x.born)&&x.born != e.born):=by simp only[leftOf,Array.toList_filter];grind
 rw[a];simpa[leftOf,Array.toList_filter]using this
theorem ajH{wr p j:World}{d clock r:Nat}{b:Nat}{u:Value}{n:Nat}{xs:List Value}(y:w.heap[d]?=some (.map es clock))(A:wr.heap[w.heap.size]?=some (.mapIter (some d) clock seen r))(o:wr.heap[d]?=some (.map es clock))(l:Below w.heap.size w wr)
  (i:wr.ownsRow (w.heap.size+1) 422 3 u n xs) (f:p=wr\/p=wr.drew) (e:j=Go.ChangeMaps.setBlock p w.heap.size (.mapIter (some d) clock (seen.push b) clock)) :
  j.heap[w.heap.size]?=some (.mapIter (some d) clock (seen.push b) clock)/\j.heap[d]?=some (.map es clock)/\Below w.heap.size w j/\j.ownsRow (w.heap.size+1) 422 3 u n xs:=by
 have z:d<w.heap.size:=(aeJ.1 y).1;have B:w.heap.size<wr.heap.size:=(aeJ.1 A).1;have C:j.heap=wr.heap.setIfInBounds w.heap.size (.mapIter (some d) clock (seen.push b) clock):=by rw[e];rcases f with rfl|rfl<;>rfl
 have a:∀k,k≠w.heap.size->j.heap[k]?=wr.heap[k]?:=λk q=>by grind
 refine⟨?_,(a d (by omega)).trans o,⟨?_,?_,?_,?_,λk q=>(a k (by omega)).trans (l.block k q)⟩,i.1,?_⟩
 ·grind
 ·rw[e];rcases f with rfl|rfl<;>exact l.os
 ·rw[e];rcases f with rfl|rfl<;>exact l.tape
 ·rw[e];rcases f with rfl|rfl<;>exact l.output
 ·grind
 ·rcases i.2 with h|⟨g,cap,m,s,t,v,x⟩
  ·exact .inl h
  ·exact .inr ⟨g,cap,m,s,t,(a g (by omega)).trans v,x⟩
theorem aq9{b q:World}{j clock:Nat}{e:MapEntry}{u A:Value}{d:List (Int×Int×Bool)}{k o:Int}{b0 v:Bool}{x y:Obj}(B:w.heap[j]?=some (.map es clock))(F:(es.toList.map (·.born)).Nodup)(D:e∈(leftOf es seen).toList)(l:e.key=.agg #[.int .i64 k,.int .i64 o,.bool b0])(p:e.val=.bool v)
  (m:b.heap[w.heap.size]?=some (.mapIter (some j) clock (seen.push e.born) clock)) (s:b.heap[j]?=some (.map es clock)) (f:Below w.heap.size w b) (i:b.ownsRow (w.heap.size+1) 422 3 u d.length (d.flatMap qU))
  (t:(d++(leftOf es seen).toList.map xr).Perm (es.toList.map xr)) (g:q.ownsRow (w.heap.size+1) 422 3 A (d.length+1) (d.flatMap qU++[.int .i64 k,.int .i64 o,.bool v])) (r:((b.alloc x).alloc y).grownBy q u.ownBlock) :
  ahY w j es clock A q/\q.iterSeen w.heap.size=seen.push e.born:=by
 have C:j<w.heap.size:=(aeJ.1 B).1;have G:w.heap.size<b.heap.size:=(aeJ.1 m).1;have H:((b.alloc x).alloc y).heap.size=b.heap.size+2:=by simp_all
 have a:∀k,k<=w.heap.size->q.heap[k]?=b.heap[k]?:=λk z=>by
  rw[r.block k (by grind) (λh=>?_)]
  ·show((b.heap.push x).push y)[k]?=_;grind
  ·have:=(i.lt k h.symm).1;omega
 have n:=(a w.heap.size (ad3 _)).trans m;refine⟨⟨seen.push e.born,clock,d++[(k,o,v)],ad3 _,n,(a j (by omega)).trans s,⟨r.os.trans f.os,r.tape.trans f.tape,r.output.trans f.output,?_,λk z=>(a k (by omega)).trans (f.block k z)⟩,?_,?_⟩,?_⟩
 ·grind
 ·simpa[qU]using g
 ·have I:=ads F D;have E:xr e=(k,o,v):=by simp[xr,l,p,intOf]
  grind
 ·simp[World.iterSeen,n]
theorem adt(w:World)(a:Nat)(es:Array MapEntry)(clock:Nat)(b:w.heap[a]?=some (.map es clock)):ahY w a es clock (.slice none 0 0) (w.alloc (.mapIter (some a) clock #[] clock)):=by
 have d:a<w.heap.size:=(aeJ.1 b).1;refine⟨#[],clock,[],ad3 _,?_,?_,(Below.refl _ w).alloc (ad3 _) _,World.ownsRow_nil _ _ _ _,?_⟩
 ·show(w.heap.push _)[w.heap.size]?=_;simp
 ·show(w.heap.push _)[a]?=_;grind
 ·have:leftOf es #[]=es:=by simp[leftOf]
  grind
set_option maxHeartbeats 4000000 in
set_option maxRecDepth 100000 in
theorem agx(w:World)(T n:Nat)(es:Array MapEntry)(clock:Nat)(hc:w.cell? ⟨T,25,none⟩=some (.map (some n)))(E:w.heap[n]?=some (.map es clock))(h12:es.size<=12)(D:∀e∈es.toList,e.born<clock)(V:(es.toList.map (·.born)).Nodup)
  (hk:∀e∈es.toList,∃k o b v,e.key=.agg #[.int .i64 k,.int .i64 o,.bool b]/\e.val=.bool v) (Q:Ending->World->Prop) (S:Value->World->Prop)
  (A:∀v (d:List (Int×Int×Bool)) W,W.ownsRow (w.heap.size+1) 422 3 v d.length (d.flatMap qU)->Below w.heap.size w W->d.Perm (es.toList.map xr)->Calls Tryz.prog 265 #[v,.func (.func 266) #[] #[]] W λe Y=>e=.returned (.tuple #[])/\S v Y)
  (hQ:∀v W,S v W->Q (.returned v) W) :
  Calls Tryz.prog 187 #[.pointer (some ⟨T,0,none⟩)] w Q:=by
 have hrg:=run_range_map (P:=Tryz.prog) w 222 422 4 n es clock Tryz.underlying222 E;obtain⟨i0,hi,N,O,R⟩:=(show TI Tryz.prog 422 3 24 (.agg #[.int .i64 0,.int .i64 0,.bool false])from by unfold TI;kernel_rfl).get;go_enter Tryz.func187,Tryz.ntmps187;go_wp2;go_loopw [3] (λv wr=>ahY w n es clock v wr) (λ_ wr=>(leftOf es (wr.iterSeen w.heap.size)).size);case atStart=>exact adt w n es clock E
 case round=>
  obtain⟨seen,c1,d,J,G,t,I,i,a⟩:=hrel
  rcases run_next_at (P:=Tryz.prog) wr 0 w.heap.size n clock c1 seen es clock G t D J with⟨Z,f⟩|⟨e,F,w1,B,f⟩
  ·have C:∀ty,(Instr.next (.pointer (some ⟨w.heap.size,0,none⟩)) false ty).run Tryz.prog wr=_:=λ_=>f
   have hd:d.Perm (es.toList.map xr):=by have:(leftOf es seen).toList=[]:=afG (by simpa using Z);rw[this]at a;simpa using a
   have hs:=A _ d wr i I hd
   go_wp2_with (go_at_call 265;refine hs.mono ?_;rintro e H ⟨rfl,hS⟩)
   exact hS
  ·obtain⟨H,s⟩:∃W,W=Go.ChangeMaps.setBlock w1 w.heap.size (.mapIter (some n) clock (seen.push e.born) clock):=⟨_,rfl⟩
   rw[<-s]at f
   have C:∀ty,(Instr.next (.pointer (some ⟨w.heap.size,0,none⟩)) false ty).run Tryz.prog wr=_:=λ_=>f
   obtain⟨k,o,b0,v,p,q⟩:=hk e (mem_left F).1
   obtain⟨y,x,r,g⟩:=ajH E G t I i B s
   have K:=run_entry_at (P:=Tryz.prog) H w.heap.size n clock seen es clock e y x (mem_left F).1 V
   rw[p,q]at K C
   have M:wr.iterSeen w.heap.size=seen:=by simp[World.iterSeen,G]
   clear f s G t i I B
   have U:d.length<=12:=by have h1:=a.length_eq;simp only[acA,afN,amd]at h1;omega
   go_wp2_with (first
    |(at_builtin;refine wpList_append_own _ rfl _ _ 238 rfl (w.heap.size+1) 422 i0 (.agg #[.int .i64 0,.int .i64 0,.bool false]) 3 24 Tryz.underlying238 hi N O R rfl (by decide) _ _ _ rfl ((g.alloc _).alloc _) ⟨H.heap.size+1,0,none⟩ 1 1 [.int .i64 k,.int .i64 o,.bool v] rfl rfl ?c1 ?c2 ?c3 ?c4 ?c5 ?_)
    |go_in)
   case c1=>
    intro j u m
    match j,m with
    |0,m=>simp at m;subst m;simp[Addr.add]
    |1,m=>simp at m;subst m;simp[Addr.add]
    |2,m=>simp at m;subst m;simp[Addr.add]
   case c2=>intro u X;simp at X;rcases X with rfl|rfl|rfl<;>rfl
   case c3=>unfold maxLen;omega
   case c4=>omega
   case c5=>have:=r.size;simp;omega
   ·intro v' w2 l h _
    obtain⟨hJ,z⟩:=aq9 E V F p q y x r g a l h
    have L:wr.iterSeen w.heap.size=seen:=M
    clear l h g r x y
    go_wp2
    go_roundw
    case rel=>exact hJ
    case measure=>
     rw[z,L]
     exact left_shrinks es seen e F
set_option linter.unusedSectionVars false
theorem RY(u:Nat):Lib.decDigits u=if u<10 then [UInt8.ofNat (48+u)]else Lib.decDigits (u / 10)++[UInt8.ofNat (48+u%10)]:=by rw[Lib.decDigits];split<;>rfl
theorem VQ:∀(k u:Nat),1<=k->u<10 ^ k->sR k u=Lib.decDigits u
 |0,u,h,_=>by omega
 |k+1,u,_,h=>by
  rw[RY,sR];split
  ·rfl
  ·rename_i a;rw[VQ k (u / 10) (by
    cases k with
    |zero=>simp at h;omega
    |succ k=>omega) (by rw[alu]at h;omega)]
theorem adD{n:Int}(a:0<=n)(b:n<=9223372036854775807):sR 20 n.toNat=Lib.itoa n:=by unfold Lib.itoa;rw[if_neg (by omega),VQ 20 _ (by omega) (by omega)]
section
variable [Yc:GCx]
theorem Ju{f:FuncId}{C:Sig}{x:j7 C.ps}{r:eJ C.rs}(hf:∃fn g,Tryz.prog.funcs[f]?=some fn/\fn.body=some g/\(fn.name == "runtime.NumGoroutine")=false)(q:iC C.rs=0)
  (i:∀(y:List Hd) (bs:List ObH),(mO C.rs r C.ms 0).map (AF.ha (ηL y))++nE C.rs r y C.nr bs 130=[])
  (n:∀l:List Hd,l.length=rU C.ps->∀w c0,ao w c0 (pe C.ps x l 2++fH)->Calls Tryz.prog f (mF C.ps x l).toArray w λe w'=>e=.returned (yV C.nr C.rs r [])/\Below w.heap.size w w'):TA Tryz.prog f C x r:=by
 refine⟨hf,λl hl w c0 m=>(n l hl w c0 λA k=>m A (adF _ k)).mono λe w' p=>?_⟩;obtain⟨o,d⟩:=p;refine⟨⟨[],by rw[q];rfl⟩,λb=>if b<w.heap.size then c0 b else 2,o,⟨d.os,d.output⟩,d.size,λb a _=>⟨d.block b a,by simp[a]⟩,λb a j=>?_,?_⟩
 ·show 2<=if b<w.heap.size then c0 b else 2
  split
  ·rename_i h;exact j h
  ·omega
 ·have:=i [] (yP l C.bl);show ao w' _ ((mO C.rs r C.ms 0).map (AF.ha (ηL []))++nE C.rs r [] C.nr (yP l C.bl) 130);rw[this];exact ao.nil _ _
theorem av4{L:List HA}(b:ao w c (L++fH)){e:GEnt}(d:e∈GTab.gl):∃ty a,w.heap[e.g]?=some (.cells (cellsOf e.t.ty e.xs (List.replicate e.xs.length e.t.ref0)).toArray ty a):=
 (b _ (adF _ (ad2 _ (acG.2 ⟨e,d,rfl⟩)))).1
theorem aue{L:List HA}(a:ao w c (L++fH)):Lib.TabIs Tryz.prog w "internal/strconv.uint64pow10" .u64 Lib.pow10Tab:=by
 obtain⟨ty,d,h⟩:=av4 a (e:=⟨4,.sc (.int .u64),Lib.pow10Tab⟩) (by simp[GTab.gl]);have b:Tryz.prog.globalNamed "internal/strconv.uint64pow10" = some 4:=by kernel_rfl
 have:w.var? Tryz.prog "internal/strconv.uint64pow10" = some (cellsOf (TC.ty (.sc (.int .u64))) Lib.pow10Tab (List.replicate Lib.pow10Tab.length (TC.ref0 (.sc (.int .u64))))).toArray:=by unfold World.var?;rw[b];simp[h]
 unfold Lib.TabIs;rw[this];rfl
theorem aqa:(⟨⟨[.d (.sc (.int .i64))],[.sc .str],1,[],[]⟩,λx=>Gk x⟩:Ctr).sound Tryz.prog 210:=by
 rintro n r h;obtain⟨a,b⟩:=Fa h;have d:sR 20 n.toNat=r:=by injection b
 clear h b;simp only[abF,agD]at a;subst d;refine Ju ⟨_,_,Tryz.func210,rfl,by kernel_rfl⟩ rfl (λ_ _=>rfl) λl hl w c0 f=>?_
 refine(Tryz.strconv_Itoa n (by omega) a.2 w (aue f)).mono λe w' g=>?_;obtain⟨rfl,k,os,rfl⟩:=g;rw[<-adD a.1 a.2];exact⟨rfl,Lib.below_grow _ _ (ad3 _) _ _⟩
theorem avb:(⟨⟨[.d (.sc .str),.d (.sc .str)],[.sc (.int .i64)],1,[],[]⟩,λx=>R9 x.1 x.2⟩:Ctr).sound Tryz.prog 221:=by
 rintro⟨a,b⟩ r h;obtain rfl:Lib.compareBytes a b=r:=by injection h
 refine Ju ⟨_,_,Tryz.func221,rfl,by kernel_rfl⟩ rfl (λ_ _=>rfl) λl hl w c0 f=>?_;refine(Any.strings_Compare Tryz.lays106 ⟨a.toArray⟩ ⟨b.toArray⟩ w).mono λe w' d=>?_;obtain⟨rfl,rfl⟩:=d;exact⟨rfl,Below.refl _ _⟩
end
set_option maxRecDepth 100000
section
variable [Itr] [Yc:GCx]
class SortLaw[Itr]:Prop where
 law:∀(es:List ((Int×Int×Bool)×Bool)) (d:List (Int×Int×Bool)),rP es=true->d.Perm (es.map λp=>(p.1.1,p.1.2.1,p.2))->co (d,0,d.length)=some (zY es)
theorem IF:∀(d:List (Int×Int×Bool)) (rs:List ah.ty.Refs),d.length=rs.length->cellsOf ah.ty d rs=d.flatMap qU
 |[],[],_=>rfl
 |a::d,r::rs,h=>by have b:=IF d rs (by simpa using h);simp only[cellsOf,ajA,b];rfl
theorem abq{W:World}{v:Value}{d ys:List (Int×Int×Bool)}(t:ao w c fH)(i:Below w.heap.size w W)(a:W.ownsRow (w.heap.size+1) 422 3 v d.length (d.flatMap qU))(hs:co (d,0,d.length)=some ys) :
  Calls Tryz.prog 265 #[v,.func (.func 266) #[] #[]] W λe o=>e=.returned (.tuple #[])/\(∃h:Hd,v=h.val/\∃rs,ys.length=rs.length/\xh o 422 3 v ys.length (cellsOf ah.ty ys rs))/\gU w o/\w.heap.size<=o.heap.size/\(∀b,b<w.heap.size->o.heap[b]?=w.heap[b]?)/\(∀g,v.ownBlock=some g->w.heap.size<=g):=by
 obtain⟨h,rfl⟩:∃h:Hd,v=h.val:=by
  rcases a.2 with⟨rfl,_⟩|⟨g,cap,p,rfl,_⟩
  ·exact⟨⟨none,0,0⟩,rfl⟩
  ·exact⟨⟨some ⟨g,0,none⟩,d.length,cap⟩,rfl⟩
 have D:∀g,h.val.ownBlock=some g->w.heap.size<g:=λg q=>by have:=(a.lt g q).1;omega
 have f:=Pc ((d,0,d.length),()) ys hs;have l:=f.2 [h,h] rfl W (λb=>if h.val.ownBlock=some b then 2 else if c b<=1 then c b else 0);refine(l ?_).mono ?_
 ·refine ao.cons ?_ (ao.cons ?_ ?_)
  ·show HA.holds _ _ (ep ah.ty 422 2 [1] d h);rw[dK (fF rfl)];refine⟨d.map λ_=>ah.ref0,kv (by simp) λj x y _ _=>bH.pure _ x y rfl,?_,λg q=>by simp[q]⟩;rw[IF _ _ (by simp)];exact zU a
  ·refine⟨af3 _,?_,λr=>?_⟩
   ·rcases a.2 with⟨n,I⟩|⟨g,cap,p,n,_⟩
    ·grind
    grind
   ·rcases a.2 with⟨n,I⟩|⟨g,cap,p,n,_⟩
    ·grind
    ·simp only[Hd.val,Value.slice.injEq]at n;exact⟨g,0,n.1,by simp[di,n.1]⟩
  ·intro A f;have f:A∈fH:=f;have t:=t A f;rcases aef.1 f with f|f
   ·obtain⟨x,M,rfl⟩:=acG.1 f;obtain⟨⟨ty,F,B⟩,L,G⟩:=t;have r:=(aeJ.1 B).1;refine⟨⟨ty,F,(i.block _ r).trans B⟩,?_,G⟩;grind
   ·have u:Stp [] w c W (λb=>if b<w.heap.size then c b else 2):=⟨i.size,λb k _=>if_pos k,λb k _=>i.block b k,λb k h=>by
     by_cases hl:b<w.heap.size
     ·exact absurd (h hl).1 (by simp)
     ·simp[hl],⟨i.os,i.output⟩⟩
    refine Yc.exm A f W _ _ (HA.stp u A (by simp) t) λb k=>?_;grind
 ·rintro e o ⟨y,c',rfl,C,z,s,_,H⟩;have E:=H _ (adF _ (ade.2 rfl):ep ah.ty 422 130 [] ys h∈_);rw[dK (fF rfl)]at E;obtain⟨rs,K,m,_⟩:=E;refine⟨rfl,⟨h,rfl,rs,K.length,m⟩,?_,aqf i.size z,λb k=>?_,λg q=>by grind⟩
  ·exact⟨C.1.trans i.os,C.2.trans i.output⟩
  ·have J:¬h.val.ownBlock=some b:=λq=>by grind
   rw[(s b (ajq k i.size) (by grind)).1];exact i.block b k
theorem Ji{η:Vn}:∀{cs:List Lf} {k:Nat} {l:Lf} {v:Value},(cs.take k).all (λl=>Nat.beq l.sz 1)=true->cs[k]?=some l->l.cells η=[v]->(aw η cs)[k]?=some v
 |[],_,_,_,_,h,_=>by simp at h
 |a::r,0,l,v,_,h,b=>by simp only[agE,no]at h;subst h;simp[aw,b]
 |a::r,k+1,l,v,ha,h,b=>by
  simp only[ai3,afR,abF]at ha;have hl:(a.cells η).length=1:=by rw[Lf.cells_sz];simp_all
  obtain⟨x,d⟩:=ajt.1 hl;simp only[aw,d,List.singleton_append,ajg];exact Ji ha.2 (by simpa using h) b
def auh(b:Nat)(F:List AF):Option Nat:=match i6 b F with
 |some (_,cs)=>bif(cs.take 25).all (λl=>Nat.beq l.sz 1)then match cs[(25:Nat)]? with
  |some (.mp h)=>some h
  |_=>none
  else none
 |none=>none
def ac8{R:Type}(ex:Option Bool)(n N:Nat)(vs:List AV)(F:List AF)(k:Out->Option R):Option R:=match ex,vs with
 | none,[.lf (.bp b 0)]=>match auh b F with
  |some h=>match xd ah (.sc .bool) h F with
   |some s=>bif Nat.ble 2 N then af (rP s.xs) (k ⟨.lf (.sl n),[.own ah 422 N [] (zY s.xs) n],[]⟩)else none
   |none=>none
  |none=>none
 |_,_=>none
def agO:Inl:=⟨false,ac8⟩
theorem asM[SortLaw]:agO.sound Tryz.prog 187:=by
 refine⟨⟨_,_,Tryz.func187,rfl,by kernel_rfl⟩,λ{R} ex n N vs F k r a=>?_⟩;simp only[agO]at a;unfold ac8 at a;split at a
 ·rename_i b;split at a
  ·rename_i h t;split at a
   ·rename_i s hs;cases V:Nat.ble 2 N
    ·grind
    ·rw [V,abv]at a;cases f:rP s.xs
     ·rw[f]at a;cases a
     ·rw [f]at a;refine⟨_,a,λ_ η w c K=>?_⟩;unfold auh at t;split at t
      ·rename_i i cs O;cases G:(cs.take 25).all (λl=>Nat.beq l.sz 1)
       ·grind
       ·rw[G,abv]at t;split at t
        ·rename_i h' P;obtain rfl:=ahU t;obtain⟨⟨ty,M⟩,_⟩:=K _ (ad2 _ (acG.2 ⟨_,fw O,rfl⟩));obtain⟨arr,clock,m1,Q,m3,m4,_⟩:=K _ (ad2 _ (acG.2 ⟨_,ir hs,rfl⟩));have m:w.cell? ⟨η.b b,25,none⟩=some (.map (some (η.h h').blk)):=by
          rw[mT M];simpa using Ji (η:=η) G P rfl
         have U:ao w c fH:=λA S=>K A (adF _ S);have B:arr.size<=12:=by
          have J:arr.size=s.xs.length:=by have:=aei List.length Q;simpa[Cn]using this
          unfold rP at f;simp_all
         have z:∀e∈arr.toList,∃k o b v,e.key=.agg #[.int .i64 k,.int .i64 o,.bool b]/\e.val=.bool v:=by
          intro e he;have:(e.key,e.val)∈Cn ah (.sc .bool) s.xs:=by grind
          obtain⟨p,_,E⟩:=acG.1 this;simp only[acW]at E;exact⟨p.1.1,p.1.2.1,p.1.2.2,p.2,E.1.symm,E.2.symm⟩
         have u:arr.toList.map xr=s.xs.map λp=>(p.1.1,p.1.2.1,p.2):=by
          have J:arr.toList.map xr=(arr.toList.map λe=>(e.key,e.val)).map λq=>xr ⟨q.1,q.2,0⟩:=by rw[ag1];rfl
          rw[J,show(arr.toList.map λe=>(e.key,e.val))=Cn ah (.sc .bool) s.xs from Q,Cn,ag1];rfl
         refine agx w (η.b b) (η.h h').blk arr clock m m1 B m3 m4 z _ (λv I=>(∃h:Hd,v=h.val/\∃rs,(zY s.xs).length=rs.length/\xh I 422 3 v (zY s.xs).length (cellsOf ah.ty (zY s.xs) rs))/\gU w I/\w.heap.size<=I.heap.size/\(∀b,b<w.heap.size->I.heap[b]?=w.heap[b]?)/\(∀g,v.ownBlock=some g->w.heap.size<=g)) (λv d W D T E=>abq U T D (SortLaw.law s.xs d f (u▸E))) ?_;rintro v W ⟨⟨hd,rfl,rs,hl,Z⟩,X,H,C,hg⟩;refine⟨⟨η.setH n hd,η.setH_agr n hd⟩,λb=>if b<w.heap.size then c b else N,?_,?_,?_⟩
         ·simp[AV.val,Lf.val,Vn.setH_at]
         ·exact .mk0 H (λb L=>by simp[L]) (λb L _=>C b L) (λb J h2=>by simp only[if_neg (show¬b<w.heap.size by omega)];simp_all) X
         ·refine ao.cons ?_ (ao.nil _ _);simp only[AF.ha,Vn.setH_at];rw[dK (fF rfl)];exact⟨rs,kv hl.symm λj x y _ _=>bH.pure _ x y rfl,Z,λg Y=>by grind⟩
        ·cases t
      ·cases t
   ·cases a
  ·cases a
 ·cases a
end
end Go.Proofs.YtgghcmbaidihjaaGreatDoor
