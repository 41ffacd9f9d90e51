/- Laws for the row. No condition. -/
import Derived.Test.YtgghcmbaidihjaaGreatDoorRfX
namespace Go.Sm
set_option linter.unusedSectionVars false
variable {f:FuncId} {fn:Func}
section
variable [X:XTab] [G:GTab] [Yc:GCx]
section
variable [Itr] {P:Program} {C:Cx} {B nt:Nat} {w0:World} {c0:aS} {β:Vn}
theorem O4.shut{S:SS}{a:Act}{w:World}(h:O4 B nt w0 c0 β [] [] S a w)(Y:S.F.all AF.nz=true):∃b k,a.defers=[mkD b]/\(Instr.takeDeferred b).run P w=.ok [] k/\(letI:Rd:=⟨none,[]⟩;gj B nt (HA.old w0 c0::fH) β [] [] S { a with defers:=[]} k):=by
 obtain⟨N,b,w1,I,⟨p1,p2,p3,p4⟩,T,U,η,c,ρ,ha,O,Q,s,E⟩:=h;obtain⟨o1,Z,o3,o4⟩:HA.holds w c (.old w1 I):=s _ adT;obtain⟨q,t⟩:w.heap[b]?=some (.deferred (some []))/\c b=0:=s _ (abJ _ adT);let c4:aS:=λx=>bif Nat.beq x b then 2 else c x
 have d:∀x,x≠b->c4 x=c x:=λx m=>by
  have:Nat.beq x b=false:=by
   cases R:Nat.beq x b
   ·rfl
   ·exact absurd (f9 R) m
  simp[c4,this]
 generalize g:w.putObj b (.deferred none)=k;have W:k.heap.size=w.heap.size:=by rw[<-g];simp
 have i:∀x,x≠b->k.heap[x]?=w.heap[x]?:=λx m=>by rw[<-g];exact World.putObj_heap_other m
 have ne:∀x,c x∉[0]->x≠b:=λx o v=>o (by simp[v,t]);have z:Stq [0] w c k c4:=⟨λx _ o=>d x (ne x o),λx _ o=>i x (ne x o)⟩
 refine⟨b,k,ha.defers,by rw[<-g];exact run_takeDeferred q,η,c4,ρ,⟨rfl,ha.size,ha.val⟩,O,λA l=>?_,ao.cons ⟨by omega,λx m u=>?_,λx m D => ?_,?_⟩ ?_,E⟩
 ·obtain⟨f,hf,rfl⟩:=acG.1 l;have y:f∈S.F:=by simpa[live]using hf
  exact zt z (Po (acr.1 Y f y)) (Q _ l)
 ·have F:=p2 x m u;have H:=Z x (by omega) (by omega);exact⟨by rw[i x (by omega),H.1,F.1],by rw[d x (by omega),H.2,F.2]⟩
 ·by_cases j:x=b
  ·subst j;simp[c4]
  rw[d x j];exact o3 x (by omega) λhl=>(p3 x hl D).resolve_right j
 ·exact p4.trans (o4.trans (by rw[<-g];exact⟨rfl,rfl⟩))
 ·have n:(fH:List HA)=G.gl.map GEnt.ha:=by rw[fH,N,ad0]
  intro A l;have V:=s A (abJ _ (abJ _ l));rw[n]at l;obtain⟨e,_,rfl⟩:=acG.1 l;obtain⟨⟨ty,J,r⟩,K,M⟩:=V;have p:e.g≠b:=λv=>by rw[v,q]at r;simp at r
  exact⟨⟨ty,J,(i _ p).trans r⟩,by rw[d _ p];exact K,M⟩
end
section
variable [Itr]
def x7:Code->Bool
 |.seq a b=>x7 a||x7 b
 |.block _ a=>x7 a
 |.scope a=>x7 a
 |.rangeFunc _ _ _ _=>true
 |_=>false
def Aq(C:Cx)(nt:Nat):Code->(R:Type)->An->SE->List AF->SS->(SS->Option R)->Kn R->Option R
 |.seq a b,R,an,c,d,S,K,M=>bif x7 a then Aq C nt a R an.fst c d S K ⟨λS'=>mI C nt b R an.snd c d S' M,M.r,M.x⟩else mI C nt a R an.fst c d S ⟨λS'=>Aq C nt b R an.snd c d S' K M,K,λ_ _=>none⟩
 |.block id a,R,an,c,d,S,K,M=>Aq C nt a R an.fst c d S K ⟨M.n,M.r,λi S'=>bif Nat.beq i id then M.n S' else M.x i S'⟩
 |.scope a,R,an,c,d,S,K,M=>Aq C nt a R an.fst c d S K M
 |.rangeFunc g ps h e,_,an,c,d,S,_,M=>rfS C nt g ps.toList h e an.fst.fst.ws an.fst.snd an.snd c d S M.n
 |_,_,_,_,_,_,_,_=>none
theorem zQ{P:Program}{C:Cx}(u:C.ok P)(E:P.follows .mixedOrders=true){nt:Nat}:∀(W:Code) {R:Type} {an:An} {p:SE} {q:List AF} {S:SS} {K:SS->Option R} {M:Kn R} {r:R},Aq C nt W R an p q S K M=some r ->
  ∀{w0:World} {c0:aS} {β:Vn} {a:Act} {w:World},(letI:Rd:=⟨none,[]⟩;gj C.B nt (HA.old w0 c0::fH) β p q S a w)->∀{Q:Exit->Act->World->Prop},
  (∀S',K S'=some r->∀a w,(letI:Rd:=⟨none,[]⟩;gj C.B nt (HA.old w0 c0::fH) β p q S' a w)->Q .ret a w) ->
  (∀e S',M.ap e S'=some r->∀a w,O4 C.B nt w0 c0 β p q S' a w->Q e a w)->W.wpIn Fence.wide 0 P Q a w
 | .seq x y,R,an,p,q,S,K,M,r,h,w0,c0,β,a,w,s,Q,t,j=>by
  simp only[Aq]at h;cases Z:x7 x
  ·rw[Z]at h;simp only[ab7]at h;letI:Rd:=⟨none,[]⟩
   refine wpIn_seq (Pp u E ⟨λA m=>?_,λA m=>abJ _ m⟩ x h s (λS' h' a w c=>zQ u E y h' c t j) (λS' h' a w c=>t S' h' a w c) λi S' h'=>by cases h');rcases aen.1 m with rfl|m
   ·intro k H;simp[HA.uses]at H;omega
   ·exact FW m
  ·rw[Z]at h;simp only[abv]at h;refine wpIn_seq (zQ u E x h s (λS' v a w c=>t S' v a w c) λe S' d a w c => ?_);cases e with
   |normal=>
    obtain⟨O,b,N,I,U,z,D,F⟩:=c;letI:Rd:=⟨none,[mkD b]⟩
    refine Pp (L0:=HA.old N I::HA.lp b (.deferred (some []))::fH) u E ⟨λA m=>?_,λA m=>abJ _ (abJ _ m)⟩ y d F (λn h' a w o=>j .normal n h' a w ⟨O,b,N,I,U,z,D,o⟩) (λn h' a w o=>j .ret n h' a w ⟨O,b,N,I,U,z,D,o⟩) (λi n h' a w o=>j (.exit i) n h' a w ⟨O,b,N,I,U,z,D,o⟩);rcases aen.1 m with rfl|m
    ·intro k H;simp[HA.uses]at H;omega
    rcases aen.1 m with rfl|m
    ·intro k H;simp[HA.uses]at H;omega
    ·exact FW m
   |ret=>exact j .ret S' d a w c
   |exit i=>exact j (.exit i) S' d a w c
   |goto l=>cases d
   |panic Y=>cases d
   |outgrown=>cases d
 | .block id x,R,an,p,q,S,K,M,r,h,w0,c0,β,a,w,s,Q,t,j=>by
  simp only[Aq]at h;refine wpIn_block (zQ u E x h s (λS' v a w c=>t S' v a w c) λe S' d a w c => ?_);cases e with
  |normal=>exact j .normal S' d a w c
  |ret=>exact j .ret S' d a w c
  |exit i=>
   simp only[Kn.ap]at d;cases J:Nat.beq i id
   ·rw[J]at d;have T:i≠id:=afY J;simp only[Exit.inBlock,if_neg T];exact j (.exit i) S' d a w c
   ·rw[J]at d;obtain rfl:=f9 J;simp only[Exit.inBlock,aeP];exact j .normal S' d a w c
  |goto l=>cases d
  |panic Y=>cases d
  |outgrown=>cases d
 |.scope x,R,an,p,q,S,K,M,r,h,w0,c0,β,a,w,s,Q,t,j=>by
  simp only[Aq]at h;refine tD (zQ u E x h s (λS' v a w c=>t S' v a w c) λe S' d a w c => ?_);cases e with
  |normal=>exact j .normal S' d a w c
  |ret=>exact j .ret S' d a w c
  |exit i=>exact j (.exit i) S' d a w c
  |goto l=>cases d
  |panic Y=>cases d
  |outgrown=>cases d
 |.rangeFunc g ps asg V,R,an,p,q,S,K,M,r,h,w0,c0,β,a,w,s,Q,t,j=>axF u E h s λS' v a w c=>j .normal S' v a w c
 |.skip,_,_,_,_,_,_,_,_,h,_,_,_,_,_,_,_,_,_=>by cases h
 |.exit _,_,_,_,_,_,_,_,_,h,_,_,_,_,_,_,_,_,_=>by cases h
 |.ret,_,_,_,_,_,_,_,_,h,_,_,_,_,_,_,_,_,_=>by cases h
 |.region _ _ _,_,_,_,_,_,_,_,_,h,_,_,_,_,_,_,_,_,_=>by cases h
 |.cond _ _ _,_,_,_,_,_,_,_,_,h,_,_,_,_,_,_,_,_,_=>by cases h
 |.loop _,_,_,_,_,_,_,_,_,h,_,_,_,_,_,_,_,_,_=>by cases h
 |.label _,_,_,_,_,_,_,_,_,h,_,_,_,_,_,_,_,_,_=>by cases h
 |.goto _,_,_,_,_,_,_,_,_,h,_,_,_,_,_,_,_,_,_=>by cases h
 |.refuse _,_,_,_,_,_,_,_,_,h,_,_,_,_,_,_,_,_,_=>by cases h
end
section
variable {P:Program} {L:List HA}
theorem aiS{e:Code}{n:Nat}{R:Ending->World->Prop}(hf:P.funcs[f]?=some fn)(k:fn.body=some e)(l:fn.ntmps=n)(args:List Value){w0:World}{c0:aS}
  (d:args.length<=n) (j:ao w0 c0 L) (h:∀a w c,Rel n (λt=>args.getD t undef) a->ao w c (.old w0 c0::L)->e.wpIn Fence.wide 0 P (bodyPostM Fence.wide 0 P fn R) a w):Calls P f args.toArray w0 R:=by
 refine callsIn_wide.1 (callsIn_of_wp_marks hf k trivial (h _ w0 c0 ⟨rfl,?_,λt=>?_⟩ (ao.cons ⟨ad3 _,λb _ _=>⟨rfl,rfl⟩,λb g i=>i g,gU.refl _⟩ j)))
 ·simp_all
 ·simp only[agZ,aee,Array.getElem?_append,aka,aiu,akD];grind
end
def w5[Itr](c:List AF)(C:Cx)(fn:Func)(an:An)(a:Sig)(x:j7 a.ps):Option (eJ a.rs):=match fn.body with
 |some b=>bif x7 b then Aq (C.at 64) fn.ntmps b (eJ a.rs) an [] [] (aeZ c a.ps x) (AJ C.Θ fn a) ⟨λS=>bif S.F.all AF.nz then AJ C.Θ fn a S else none,λS=>bif S.F.all AF.nz then AJ C.Θ fn a S else none,λ_ _=>none⟩
  else mI (C.at 64) fn.ntmps b (eJ a.rs) an [] [] (aeZ c a.ps x) ⟨AJ C.Θ fn a,AJ C.Θ fn a,λ_ _=>none⟩
 |none=>none
def aE[Itr](C:Cx)(fn:Func)(an:An)(a:Sig)(x:j7 a.ps):Option (eJ a.rs):=w5 [] C fn an a x
section
variable {P:Program}
theorem abZ[Itr]{C:Cx}(hC:C.ok P)(hm:P.follows .mixedOrders=true)(hf:P.funcs[f]?=some fn)(R:(fn.name == "runtime.NumGoroutine")=false){an:An}{g:Sig}
  {x:j7 g.ps} {r:eJ g.rs} (N:fn.body.isSome=true) (s:∀l:List Hd,l.length=rU g.ps->∀w c,ao w c (pe g.ps x l 2)->∃xf,(∀A∈xf.map (AF.ha (ηL l)),Id A)/\w5 xf C fn an g x=some r) (hs:(Nat.ble g.ps.length fn.ntmps&&Nat.ble (rU g.ps) 64)=true):TA P f g x r:=by
 obtain⟨cd,O⟩:=ahy.1 N;refine⟨⟨fn,cd,hf,O,R⟩,λl hl w c0 hH=>?_⟩;obtain⟨xf,hxf,s⟩:=s l hl w c0 (λA D=>hH A (adF _ (ad2 _ D)));simp only[w5,O]at s;simp only[abF]at hs;have hps:=abM hs.1;refine aiS (n:=fn.ntmps) hf O rfl _ (by rw[abA];exact hps) hH ?_;intro a w1 c1 ha u;have hL0:L0ok (HA.old w c0::fH):=⟨λA D=>by
  rcases aen.1 D with rfl|D
  ·intro k hk;simp[HA.uses]at hk;omega
  ·exact FW D,λA D=>abJ _ D⟩
 have J:iS (ηL l) 0 l:=λj h hj=>by simp[ηL,hj]
 have hnb:∀j h,l[j]?=some h->(ηL l).b (0+j)=h.blk:=λj h hj=>by simp[ηL,hj]
 obtain⟨p1,p2⟩:=V0 (η:=ηL l) g.ps x 2 l 0 J hnb (by omega);letI:Rd:=⟨none,[]⟩
 have hI:gj 64 fn.ntmps (HA.old w c0::fH) (ηL l) [] [] (aeZ xf g.ps x) a w1:=by
  refine⟨ηL l,c1,_,ha,λt v hlk=>?_,?_,?_,λ_ _=>⟨rfl,rfl⟩⟩
  ·rw[ad0]at hlk;obtain⟨j,hj,hv⟩:=Cs (η:=ηL l) hlk;grind
  ·rw[show∀d,live d []=[] fromλ_=>rfl,ad0];show ao w1 c1 ((Ia g.ps 0++FL g.ps x 2 0++xf).map (AF.ha (ηL l)));rw[afo,afo,p2];exact ao.append (ao.append (λA D=>u A (abJ _ (ad2 _ D))) λA D=>u A (abJ _ (adF _ (ad2 _ D)))) λA D=>hxf A D w1 c1
  ·intro A D;rcases aen.1 D with rfl|D
   ·exact u _ adT
   ·exact u A (abJ _ (adF _ (adF _ D)))
 have fin:∀S',AJ C.Θ fn g S'=some r->∀a w',gj 64 fn.ntmps (HA.old w c0::fH) (ηL l) [] [] S' a w'->bodyPost P fn (vT w c0 (λy : { y:List Hd//y.length=iC g.rs}=>yV g.nr g.rs r y.1)
   (λy=>(mO g.rs r g.ms 0).map (AF.ha (ηL y.1))++nE g.rs r y.1 g.nr (yP l g.bl) 130)) .ret a w':=by
  intro S' m a w' o;obtain⟨η,c,ρ,hrel,hE,M,hL,hβ⟩:=o;rw[ad0]at hE;rw[show live S'.d []=[]from rfl,ad0]at M;unfold AJ at m;split at m
  ·rename_i vs bs hvs hbs;split at m
   ·rename_i x' K hd;simp only at m;generalize hcm:(fZ (bs.map (·.1)) 130++(pw S'.F g.ms K 0++sy S'.F g.ms K 0)).filter (λp=>Nat.ble 2 p.1)=W at m;cases E:(vW (ry W 2) S'.F g.rs g.ms K 0&&Nat.beq g.ms.length K.length&&Nat.beq vs.length g.nr&&(fZ (bs.map (·.1)) 130).all (λp=>Nat.beq (ry W 2 p.1) p.2))
    ·grind
    ·rw[E]at m;simp only[abv,no]at m;subst m;simp only[abF]at E;obtain⟨⟨⟨E,_⟩,S⟩,Q⟩:=E;have S:=f9 S;have hg:Gd (ry W 2):=by
      refine Pl ?_;simp only[afR,abF];refine⟨rfl,acr.2 λz V=>?_⟩;obtain⟨p,T,rfl⟩:=acG.1 V;rw[<-hcm]at T;refine aeo ?_;have T:=(ae2.1 T).1;rcases aef.1 T with T|T
      ·exact acm (by omega) T
      grind[W8,aaZ]
     obtain⟨d1,d2,d3,d4⟩:=asf hg M hbs hd Q;have hres:=DF hC.Θ hE hvs;have hrun:=Ec (fn:=fn) (rs:=fn.results.toList) (vs:=AV.vals η vs) (by simp) hrel.val M hres;have hnm:∀(q:Nat) (z:Lf),K[q]?=some z->(ηL (aT η K)).h (0+q)=z.hd η:=λq z V=>by grind[aT,ηL]
     have I:=d4 E (ηL (aT η K)) hnm;have hblk:yP l g.bl=g.bl.map λk=>(VT k).v η:=by
      refine afA λb hb=>?_;unfold obH VT;cases hk:Nat.blt b 64
      ·simp only[ab7,ObA.v,(hβ (b%64) (ajQ _ (by omega))).2];rfl
      ·have h1:b+1<=64:=abM hk;simp only[abv,ObA.v,(hβ b (by omega)).1];rfl
     obtain⟨o1,o2,o3,o4⟩:=hL _ adT;refine⟨hrel.defers,_,hrun,⟨aT η K,by simp[aT,d2]⟩,λb=>ry W 2 (c b),?_,o4,o1,λb H Y=>⟨(o2 b H Y).1,?_⟩,λb H Z=>hg.two _ (o3 b H Z),I.append (by grind)⟩
     ·congr 1;simp only[yV];rw[<-S,d1];generalize AV.vals η vs=us;match us with
      |[]=>rfl
      |[v]=>rfl
      |v::v'::us=>
       grind
     ·show ry W 2 (c b)=_;rw[(o2 b H Y).2];rcases(show c0 b=0\/c0 b=1 by omega)with e|e<;>rw[e]
      ·exact hg.z
      ·exact hg.o
   ·cases m
  ·cases m
 have F:∀S',AJ C.Θ fn g S'=some r->∀a w',gj 64 fn.ntmps (HA.old w c0::fH) (ηL l) [] [] S' a w'->bodyPostM Fence.wide 0 P fn (vT w c0 (λy : { y:List Hd//y.length=iC g.rs}=>yV g.nr g.rs r y.1)
   (λy=>(mO g.rs r g.ms 0).map (AF.ha (ηL y.1))++nE g.rs r y.1 g.nr (yP l g.bl) 130)) .ret a w':=λS' h' a w' o=>by
  obtain⟨hd,v,hv,hR⟩:=fin S' h' a w' o;show LeavesInM _ _ _ _ _ _ a.defers _ _;rw[hd];exact⟨v,hv,hR⟩
 cases hrf:x7 cd
 ·rw[hrf]at s;exact Pp (Cx.at_ok hC 64) hm hL0 cd s hI (λS' h' a w' o=>F S' h' a w' o) (λS' h' a w' o=>F S' h' a w' o) (λi S' h'=>by cases h')
 ·rw[hrf]at s;refine zQ (Cx.at_ok hC 64) hm cd s hI (λS' h' a w' o=>F S' h' a w' o) λe S' U a w' o => ?_;have key:(bif S'.F.all AF.nz then AJ C.Θ fn g S' else none)=some r->LeavesInM Fence.wide 0 P fn a.tmps (vT w c0 (λy : { y:List Hd//y.length=iC g.rs}=>yV g.nr g.rs r y.1)
   (λy=>(mO g.rs r g.ms 0).map (AF.ha (ηL y.1))++nE g.rs r y.1 g.nr (yP l g.bl) 130)) a.defers .returning w':=λh'=>by
   cases V:S'.F.all AF.nz
   ·rw[V]at h';cases h'
   rw[V]at h';obtain⟨b,w2,hd,htk,hI2⟩:=O4.shut (P:=P) o V;rw[hd];exact⟨by simp,.inl ⟨b,w2,rfl,htk,F S' h' _ _ hI2⟩⟩
  cases e with
  |normal=>exact key U
  |ret=>exact key U
  |exit i=>cases U
  |goto l=>cases U
  |panic ch=>cases U
  |outgrown=>cases U
theorem axk[Itr]{C:Cx}(e:C.ok P)(g:P.follows .mixedOrders=true)(hf:P.funcs[f]?=some fn)(b:(fn.name == "runtime.NumGoroutine")=false){an:An}{c:Sig}
  {x:j7 c.ps} {r:eJ c.rs} (a:aE C fn an c x=some r) (hs:(Nat.ble c.ps.length fn.ntmps&&Nat.ble (rU c.ps) 64)=true):TA P f c x r:=
 abZ e g hf b (by simp only[aE,w5]at a;grind) (λ_ _ _ _ _=>⟨[],λA d=>by simp at d,a⟩) hs
theorem va[Itr]{C:Cx}(n:C.ok P)(q:P.follows .mixedOrders=true)(hf:P.funcs[f]?=some fn)(d:(fn.name == "runtime.NumGoroutine")=false)(a:fn.body.isSome=true){an:An}{t:TC}{rs:List TC}{nr:Nat}{ms:List RM}
  {F:List t.den->Option (eJ rs)} (o:∀x,F x=w5 [.isn 0 false] C fn an ⟨[.d (.slice t)],rs,nr,[],ms⟩ x) (k:F []=w5 [.isn 0 true] C fn an ⟨[.d (.slice t)],rs,nr,[],ms⟩ ([]:List t.den)) (hs:Nat.ble 1 fn.ntmps=true):Ctr.sound P f ⟨⟨[.d (.slice t)],rs,nr,[],ms⟩,F⟩:=by
 intro x r g;refine abZ n q hf d (an:=an) a (λl hl w c p=>?_) (by simp[hs,rU,PC.nh,TC.nh]);have g:F x=some r:=g;have hl:l.length=1:=by simpa[rU,PC.nh,TC.nh]using hl
 match l,hl with
 | [h],_=>
  cases j:h.isNil with
  | false=>exact⟨[.isn 0 false],λA e=>by
    simp only[aev,ahd,ade]at e;subst e;intro w c;show(h.isNil=false);exact j,(o x).symm.trans g⟩
  | true=>
   have s:x=([]:List t.den):=by
    obtain⟨ys,g,y,z,D,m⟩:=p (.rep t.ty [1] x h) adT;rcases m with⟨_,E⟩|⟨b,off,arr,u,v,i,_⟩
    ·simp_all
    ·simp[Hd.isNil,i]at j
   subst s;exact⟨[.isn 0 true],λA e=>by simp only[aev,ahd,ade]at e;subst e;intro w c;show(h.isNil=true);exact j,k.symm.trans g⟩
theorem ai[Itr]{C:Cx}(c:C.ok P)(e:P.follows .mixedOrders=true)(hf:P.funcs[f]?=some fn)(a:(fn.name == "runtime.NumGoroutine")=false){an:An}{b:Sig}
  {F:j7 b.ps->Option (eJ b.rs)} (d:∀x,F x=aE C fn an b x) (hs:(Nat.ble b.ps.length fn.ntmps&&Nat.ble (rU b.ps) 64)=true):Ctr.sound P f ⟨b,F⟩:=
 λx _ g=>axk c e hf a (an:=an) ((d x).symm.trans g) hs
def aB(C:Cx)(f:FuncId)(a:Ctr):Cx:={ C with Γ:=λg=>bif Nat.beq g f then a::C.Γ g else C.Γ g}
theorem aj{C:Cx}(a:C.ok P){d:Ctr}(h:d.sound P f):(aB C f d).ok P:=by
 refine⟨λg c b=>?_,a.Θ,a.G,a.D,a.I,a.Y,a.T⟩;simp only[aB]at b;cases e:Nat.beq g f
 ·rw[e]at b;exact a.Γ g c b
 ·rw[e]at b;simp only[abv,aen]at b;rcases b with rfl|b
  ·simp_all
  ·exact a.Γ g c b
def afq(C:Cx)(d:DCtr)(W:Bool):Cx:={ C with D:=d::C.D,W:=W}
theorem UZ{C:Cx}(a:C.ok P){d:DCtr}{W:Bool}(h:d.sound P):(afq C d W).ok P:=
 ⟨a.Γ,a.Θ,a.G,λe b=>by
  rcases aen.1 b with rfl|b
  ·exact h
  ·exact a.D e b,a.I,a.Y,a.T⟩
def Cx.wr(C:Cx):Cx:={ C with W:=true}
theorem Cx.wr_ok{C:Cx}(h:C.ok P):C.wr.ok P:=⟨h.Γ,h.Θ,h.G,h.D,h.I,h.Y,h.T⟩
end
end
end Go.Sm
