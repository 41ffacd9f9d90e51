/- Laws for the row. No condition. -/
import Derived.Test.YtgghcmbaidihjaaGreatDoorRfX
namespace Go.Sm
set_option linter.unusedSectionVars false
section
variable [X:XTab] [G:GTab] [Yc:GCx]
section
variable [Itr] {P:Program} {C:Cx} {B nt:Nat} {w0:World} {c0:aS} {β:Vn}
theorem K9.shut{S:SS}{a:Act}{w:World}(h:K9 B nt w0 c0 β [] [] S a w)(hz:S.F.all AF.nz=true):∃b w2,a.defers=[XY b]/\(Instr.takeDeferred b).run P w=.ok [] w2/\(letI:Rd:=⟨none,[]⟩;fX B nt (HA.old w0 c0::eV) β [] [] S { a with defers:=[]} w2):=by
 obtain⟨h0,b,w1,c1,⟨p1,p2,p3,p4⟩,hb0,hb1,η,c,ρ,ha,hE,hF,hL,hβ⟩:=h;obtain⟨o1,o2,o3,o4⟩:HA.holds w c (.old w1 c1):=hL _ ZO;obtain⟨hob,hcb⟩:w.heap[b]?=some (.deferred (some []))/\c b=0:=hL _ (Zf _ ZO);let c4:aS:=λx=>bif Nat.beq x b then 2 else c x
 have hc4:∀x,x≠b->c4 x=c x:=λx hx=>by
  have:Nat.beq x b=false:=by
   cases hb:Nat.beq x b
   ·rfl
   ·exact absurd (f9 hb) hx
  simp[c4,this]
 generalize hw2:w.putObj b (.deferred none)=w2;have hs2:w2.heap.size=w.heap.size:=by rw[<-hw2];simp
 have hx2:∀x,x≠b->w2.heap[x]?=w.heap[x]?:=λx hx=>by rw[<-hw2];exact World.putObj_heap_other hx
 have ne:∀x,c x∉[0]->x≠b:=λx hn he=>hn (by simp[he,hcb]);have hst:Stq [0] w c w2 c4:=⟨λx _ hn=>hc4 x (ne x hn),λx _ hn=>hx2 x (ne x hn)⟩
 refine⟨b,w2,ha.defers,by rw[<-hw2];exact run_takeDeferred hob,η,c4,ρ,⟨rfl,ha.size,ha.val⟩,hE,λA hA=>?_,aj.cons ⟨by omega,λx hx hcx=>?_,λx hx hx' => ?_,?_⟩ ?_,hβ⟩
 ·obtain⟨f,hf,rfl⟩:=ZA.1 hA;have hf':f∈S.F:=by simpa[live]using hf
  exact xE hst (Lt (Zy.1 hz f hf')) (hF _ hA)
 ·have q1:=p2 x hx hcx;have q2:=o2 x (by omega) (by omega);exact⟨by rw[hx2 x (by omega),q2.1,q1.1],by rw[hc4 x (by omega),q2.2,q1.2]⟩
 ·by_cases hxb:x=b
  ·subst hxb;simp[c4]
  rw[hc4 x hxb];exact o3 x (by omega) λhl=>(p3 x hl hx').resolve_right hxb
 ·exact p4.trans (o4.trans (by rw[<-hw2];exact⟨rfl,rfl⟩))
 ·have hGLH:(eV:List HA)=G.gl.map GEnt.ha:=by rw[eV,h0,Z2]
  intro A hA;have hh:=hL A (Zf _ (Zf _ hA));rw[hGLH]at hA;obtain⟨e,_,rfl⟩:=ZA.1 hA;obtain⟨⟨ty,fz,g1⟩,g2,g3⟩:=hh;have hne:e.g≠b:=λhe=>by rw[he,hob]at g1;simp at g1
  exact⟨⟨ty,fz,(hx2 _ hne).trans g1⟩,by rw[hc4 _ hne];exact g2,g3⟩
end
section
variable [Itr]
def vy:Code->Bool
 |.seq a b=>vy a||vy b
 |.block _ a=>vy a
 |.scope a=>vy a
 |.rangeFunc _ _ _ _=>true
 |_=>false
def ym(C:Cx)(nt:Nat):Code->(R:Type)->An->SE->List AF->SS->(SS->Option R)->Kn R->Option R
 |.seq a b,R,an,KE,KF,S,K,M=>bif vy a then ym C nt a R an.fst KE KF S K ⟨λS'=>lG C nt b R an.snd KE KF S' M,M.r,M.x⟩else lG C nt a R an.fst KE KF S ⟨λS'=>ym C nt b R an.snd KE KF S' K M,K,λ_ _=>none⟩
 |.block id a,R,an,KE,KF,S,K,M=>ym C nt a R an.fst KE KF S K ⟨M.n,M.r,λi S'=>bif Nat.beq i id then M.n S' else M.x i S'⟩
 |.scope a,R,an,KE,KF,S,K,M=>ym C nt a R an.fst KE KF S K M
 |.rangeFunc g ps asg body,_,an,KE,KF,S,_,M=>rfS C nt g ps.toList asg body an.fst.fst.ws an.fst.snd an.snd KE KF S M.n
 |_,_,_,_,_,_,_,_=>none
theorem xi{P:Program}{C:Cx}(hC:C.ok P)(hm:P.follows .mixedOrders=true){nt:Nat}:∀(cd:Code) {R:Type} {an:An} {KE:SE} {KF:List AF} {S:SS} {K:SS->Option R} {M:Kn R} {r:R},ym C nt cd R an KE KF S K M=some r ->
  ∀{w0:World} {c0:aS} {β:Vn} {a:Act} {w:World},(letI:Rd:=⟨none,[]⟩;fX C.B nt (HA.old w0 c0::eV) β KE KF S a w)->∀{Q:Exit->Act->World->Prop},
  (∀S',K S'=some r->∀a w,(letI:Rd:=⟨none,[]⟩;fX C.B nt (HA.old w0 c0::eV) β KE KF S' a w)->Q .ret a w) ->
  (∀e S',M.ap e S'=some r->∀a w,K9 C.B nt w0 c0 β KE KF S' a w->Q e a w)->cd.wpIn Fence.wide 0 P Q a w
 | .seq x y,R,an,KE,KF,S,K,M,r,h,w0,c0,β,a,w,hI,Q,hr,hQ=>by
  simp only[ym]at h;cases hx:vy x
  ·rw[hx]at h;simp only[Zr]at h;letI:Rd:=⟨none,[]⟩
   refine wpIn_seq (K7 hC hm ⟨λA hA=>?_,λA hA=>Zf _ hA⟩ x h hI (λS' h' a w hI'=>xi hC hm y h' hI' hr hQ) (λS' h' a w hI'=>hr S' h' a w hI') λi S' h'=>by cases h');rcases aaa.1 hA with rfl|hA
   ·intro k hk;simp[HA.uses]at hk;omega
   ·exact DX hA
  ·rw[hx]at h;simp only[Ze]at h;refine wpIn_seq (xi hC hm x h hI (λS' hK a w hI'=>hr S' hK a w hI') λe S' hM a w hI' => ?_);cases e with
   |normal=>
    obtain⟨h0,b,w1,c1,ho,hb0,hb1,hI''⟩:=hI';letI:Rd:=⟨none,[XY b]⟩
    refine K7 (L0:=HA.old w1 c1::HA.lp b (.deferred (some []))::eV) hC hm ⟨λA hA=>?_,λA hA=>Zf _ (Zf _ hA)⟩ y hM hI'' (λS'' h' a w hI3=>hQ .normal S'' h' a w ⟨h0,b,w1,c1,ho,hb0,hb1,hI3⟩) (λS'' h' a w hI3=>hQ .ret S'' h' a w ⟨h0,b,w1,c1,ho,hb0,hb1,hI3⟩) (λi S'' h' a w hI3=>hQ (.exit i) S'' h' a w ⟨h0,b,w1,c1,ho,hb0,hb1,hI3⟩);rcases aaa.1 hA with rfl|hA
    ·intro k hk;simp[HA.uses]at hk;omega
    rcases aaa.1 hA with rfl|hA
    ·intro k hk;simp[HA.uses]at hk;omega
    ·exact DX hA
   |ret=>exact hQ .ret S' hM a w hI'
   |exit i=>exact hQ (.exit i) S' hM a w hI'
   |goto l=>cases hM
   |panic ch=>cases hM
   |outgrown=>cases hM
 | .block id x,R,an,KE,KF,S,K,M,r,h,w0,c0,β,a,w,hI,Q,hr,hQ=>by
  simp only[ym]at h;refine wpIn_block (xi hC hm x h hI (λS' hK a w hI'=>hr S' hK a w hI') λe S' hM a w hI' => ?_);cases e with
  |normal=>exact hQ .normal S' hM a w hI'
  |ret=>exact hQ .ret S' hM a w hI'
  |exit i=>
   simp only[Kn.ap]at hM;cases hb:Nat.beq i id
   ·rw[hb]at hM;have hne:i≠id:=acx hb;simp only[Exit.inBlock,if_neg hne];exact hQ (.exit i) S' hM a w hI'
   ·rw[hb]at hM;obtain rfl:=f9 hb;simp only[Exit.inBlock,aaL];exact hQ .normal S' hM a w hI'
  |goto l=>cases hM
  |panic ch=>cases hM
  |outgrown=>cases hM
 |.scope x,R,an,KE,KF,S,K,M,r,h,w0,c0,β,a,w,hI,Q,hr,hQ=>by
  simp only[ym]at h;refine qU (xi hC hm x h hI (λS' hK a w hI'=>hr S' hK a w hI') λe S' hM a w hI' => ?_);cases e with
  |normal=>exact hQ .normal S' hM a w hI'
  |ret=>exact hQ .ret S' hM a w hI'
  |exit i=>exact hQ (.exit i) S' hM a w hI'
  |goto l=>cases hM
  |panic ch=>cases hM
  |outgrown=>cases hM
 |.rangeFunc g ps asg body,R,an,KE,KF,S,K,M,r,h,w0,c0,β,a,w,hI,Q,hr,hQ=>apR hC hm h hI λS' hK a w hI'=>hQ .normal S' hK a w hI'
 |.skip,_,_,_,_,_,_,_,_,h,_,_,_,_,_,_,_,_,_=>by cases h
 |.exit _,_,_,_,_,_,_,_,_,h,_,_,_,_,_,_,_,_,_=>by cases h
 |.ret,_,_,_,_,_,_,_,_,h,_,_,_,_,_,_,_,_,_=>by cases h
 |.region _ _ _,_,_,_,_,_,_,_,_,h,_,_,_,_,_,_,_,_,_=>by cases h
 |.cond _ _ _,_,_,_,_,_,_,_,_,h,_,_,_,_,_,_,_,_,_=>by cases h
 |.loop _,_,_,_,_,_,_,_,_,h,_,_,_,_,_,_,_,_,_=>by cases h
 |.label _,_,_,_,_,_,_,_,_,h,_,_,_,_,_,_,_,_,_=>by cases h
 |.goto _,_,_,_,_,_,_,_,_,h,_,_,_,_,_,_,_,_,_=>by cases h
 |.refuse _,_,_,_,_,_,_,_,_,h,_,_,_,_,_,_,_,_,_=>by cases h
end
section
variable {P:Program} {L:List HA}
theorem ads{f:FuncId}{fn:Func}{cd:Code}{n:Nat}{R:Ending->World->Prop}(hf:P.funcs[f]?=some fn)(hb:fn.body=some cd)(hn:fn.ntmps=n)(args:List Value){w0:World}{c0:aS}
  (hargs:args.length<=n) (hL:aj w0 c0 L) (h:∀a w c,Rel n (λt=>args.getD t undef) a->aj w c (.old w0 c0::L)->cd.wpIn Fence.wide 0 P (bodyPostM Fence.wide 0 P fn R) a w):Calls P f args.toArray w0 R:=by
 refine callsIn_wide.1 (callsIn_of_wp_marks hf hb trivial (h _ w0 c0 ⟨rfl,?_,λt=>?_⟩ (aj.cons ⟨Z0 _,λb _ _=>⟨rfl,rfl⟩,λb h1 h2=>h2 h1,gv.refl _⟩ hL)))
 ·simp_all
 ·simp only[ac1,aav,Array.getElem?_append,ajW,aeu,akB];grind
end
def wu[Itr](xf:List AF)(C:Cx)(fn:Func)(an:An)(sg:Sig)(x:ja sg.ps):Option (d8 sg.rs):=match fn.body with
 |some cd=>bif vy cd then ym (C.at 64) fn.ntmps cd (d8 sg.rs) an [] [] (acQ xf sg.ps x) (yD C.Θ fn sg) ⟨λS=>bif S.F.all AF.nz then yD C.Θ fn sg S else none,λS=>bif S.F.all AF.nz then yD C.Θ fn sg S else none,λ_ _=>none⟩
  else lG (C.at 64) fn.ntmps cd (d8 sg.rs) an [] [] (acQ xf sg.ps x) ⟨yD C.Θ fn sg,yD C.Θ fn sg,λ_ _=>none⟩
 |none=>none
def aG[Itr](C:Cx)(fn:Func)(an:An)(sg:Sig)(x:ja sg.ps):Option (d8 sg.rs):=wu [] C fn an sg x
section
variable {P:Program}
theorem XI[Itr]{C:Cx}(hC:C.ok P)(hm:P.follows .mixedOrders=true){f:FuncId}{fn:Func}(hf:P.funcs[f]?=some fn)(hname:(fn.name == "runtime.NumGoroutine")=false){an:An}{sg:Sig}
  {x:ja sg.ps} {r:d8 sg.rs} (hbody:fn.body.isSome=true) (hsem:∀l:List Hd,l.length=qE sg.ps->∀w c,aj w c (nA sg.ps x l 2)->∃xf,(∀A∈xf.map (AF.ha (ηL l)),EP A)/\wu xf C fn an sg x=some r) (hs:(Nat.ble sg.ps.length fn.ntmps&&Nat.ble (qE sg.ps) 64)=true):Qr P f sg x r:=by
 obtain⟨cd,hcd⟩:=ad6.1 hbody;refine⟨⟨fn,cd,hf,hcd,hname⟩,λl hl w c0 hH=>?_⟩;obtain⟨xf,hxf,hsem⟩:=hsem l hl w c0 (λA hA=>hH A (ZW _ hA));simp only[wu,hcd]at hsem;simp only[Y5]at hs;have hps:=Zh hs.1;refine ads (n:=fn.ntmps) hf hcd rfl _ (by rw[XV];exact hps) hH ?_;intro a w1 c1 ha hHeap;have hL0:L0ok (HA.old w c0::eV):=⟨λA hA=>by
  rcases aaa.1 hA with rfl|hA
  ·intro k hk;simp[HA.uses]at hk;omega
  ·exact DX hA,λA hA=>Zf _ hA⟩
 have hnamed:gU (ηL l) 0 l:=λj h hj=>by simp[ηL,hj]
 have hnb:∀j h,l[j]?=some h->(ηL l).b (0+j)=h.blk:=λj h hj=>by simp[ηL,hj]
 obtain⟨p1,p2⟩:=Pj (η:=ηL l) sg.ps x 2 l 0 hnamed hnb (by omega);letI:Rd:=⟨none,[]⟩
 have hI:fX 64 fn.ntmps (HA.old w c0::eV) (ηL l) [] [] (acQ xf sg.ps x) a w1:=by
  refine⟨ηL l,c1,_,ha,λt v hlk=>?_,?_,?_,λ_ _=>⟨rfl,rfl⟩⟩
  ·rw[Z2]at hlk;obtain⟨j,hj,hv⟩:=AN (η:=ηL l) hlk;grind
  ·rw[show∀d,live d []=[] fromλ_=>rfl,Z2];show aj w1 c1 ((Ez sg.ps x 2 0++xf).map (AF.ha (ηL l)));rw[abz,p2];exact aj.append (λA hA=>hHeap A (Zf _ (ZW _ hA))) λA hA=>hxf A hA w1 c1
  ·intro A hA;rcases aaa.1 hA with rfl|hA
   ·exact hHeap _ ZO
   ·exact hHeap A (Zf _ (Z7 _ hA))
 have fin:∀S',yD C.Θ fn sg S'=some r->∀a w',fX 64 fn.ntmps (HA.old w c0::eV) (ηL l) [] [] S' a w'->bodyPost P fn (tS w c0 (λy : { y:List Hd//y.length=gK sg.rs}=>wB sg.nr sg.rs r y.1)
   (λy=>(lg sg.rs r sg.ms 0).map (AF.ha (ηL y.1))++lJ sg.rs r y.1 sg.nr (wN l sg.bl) 130)) .ret a w':=by
  intro S' hret a w' hI';obtain⟨η,c,ρ,hrel,hE,hFf,hL,hβ⟩:=hI';rw[Z2]at hE;rw[show live S'.d []=[]from rfl,Z2]at hFf;unfold yD at hret;split at hret
  ·rename_i vs bs hvs hbs;split at hret
   ·rename_i x' ll hd;simp only at hret;generalize hcm:(fC (bs.map (·.1)) 130++(nL S'.F sg.ms ll 0++pR S'.F sg.ms ll 0)).filter (λp=>Nat.ble 2 p.1)=cm at hret;cases hchk:(tT (pJ cm 2) S'.F sg.rs sg.ms ll 0&&Nat.beq sg.ms.length ll.length&&Nat.beq vs.length sg.nr&&(fC (bs.map (·.1)) 130).all (λp=>Nat.beq (pJ cm 2 p.1) p.2))
    ·grind
    ·rw[hchk]at hret;simp only[Ze,no]at hret;subst hret;simp only[Y5]at hchk;obtain⟨⟨⟨hchk,_⟩,hnr⟩,henum⟩:=hchk;have hnr:=f9 hnr;have hg:Gd (pJ cm 2):=by
      refine KO ?_;simp only[acw,Y5];refine⟨rfl,Zy.2 λz hz=>?_⟩;obtain⟨p,hp,rfl⟩:=ZA.1 hz;rw[<-hcm]at hp;refine aah ?_;have hp:=(aa0.1 hp).1;rcases aad.1 hp with hp|hp
      ·exact WD (by omega) hp
      grind[S8,UV]
     obtain⟨d1,d2,d3,d4⟩:=ak7 hg hFf hbs hd henum;have hres:=BE hC.Θ hE hvs;have hrun:=Cb (fn:=fn) (rs:=fn.results.toList) (vs:=AV.vals η vs) (by simp) hrel.val hFf hres;have hnm:∀(q:Nat) (z:Lf),ll[q]?=some z->(ηL (aT η ll)).h (0+q)=z.hd η:=λq z hz=>by grind[aT,ηL]
     have hfacts:=d4 hchk (ηL (aT η ll)) hnm;have hblk:wN l sg.bl=sg.bl.map λk=>(Rb k).v η:=by
      refine abw λb hb=>?_;unfold obH Rb;cases hk:Nat.blt b 64
      ·simp only[Zr,ObA.v,(hβ (b%64) (aka _ (by omega))).2];rfl
      ·have h1:b+1<=64:=Zh hk;simp only[Ze,ObA.v,(hβ b (by omega)).1];rfl
     obtain⟨o1,o2,o3,o4⟩:=hL _ ZO;refine⟨hrel.defers,_,hrun,⟨aT η ll,by simp[aT,d2]⟩,λb=>pJ cm 2 (c b),?_,o4,o1,λb hb' h01=>⟨(o2 b hb' h01).1,?_⟩,λb hb' hb''=>hg.two _ (o3 b hb' hb''),hfacts.append (by grind)⟩
     ·congr 1;simp only[wB];rw[<-hnr,d1];generalize AV.vals η vs=us;match us with
      |[]=>rfl
      |[v]=>rfl
      |v::v'::us=>
       grind
     ·show pJ cm 2 (c b)=_;rw[(o2 b hb' h01).2];rcases(show c0 b=0\/c0 b=1 by omega)with e|e<;>rw[e]
      ·exact hg.z
      ·exact hg.o
   ·cases hret
  ·cases hret
 have fin0:∀S',yD C.Θ fn sg S'=some r->∀a w',fX 64 fn.ntmps (HA.old w c0::eV) (ηL l) [] [] S' a w'->bodyPostM Fence.wide 0 P fn (tS w c0 (λy : { y:List Hd//y.length=gK sg.rs}=>wB sg.nr sg.rs r y.1)
   (λy=>(lg sg.rs r sg.ms 0).map (AF.ha (ηL y.1))++lJ sg.rs r y.1 sg.nr (wN l sg.bl) 130)) .ret a w':=λS' h' a w' hI'=>by
  obtain⟨hd,v,hv,hR⟩:=fin S' h' a w' hI';show LeavesInM _ _ _ _ _ _ a.defers _ _;rw[hd];exact⟨v,hv,hR⟩
 cases hrf:vy cd
 ·rw[hrf]at hsem;exact K7 (Cx.at_ok hC 64) hm hL0 cd hsem hI (λS' h' a w' hI'=>fin0 S' h' a w' hI') (λS' h' a w' hI'=>fin0 S' h' a w' hI') (λi S' h'=>by cases h')
 ·rw[hrf]at hsem;refine xi (Cx.at_ok hC 64) hm cd hsem hI (λS' h' a w' hI'=>fin0 S' h' a w' hI') λe S' hM a w' hI' => ?_;have key:(bif S'.F.all AF.nz then yD C.Θ fn sg S' else none)=some r->LeavesInM Fence.wide 0 P fn a.tmps (tS w c0 (λy : { y:List Hd//y.length=gK sg.rs}=>wB sg.nr sg.rs r y.1)
   (λy=>(lg sg.rs r sg.ms 0).map (AF.ha (ηL y.1))++lJ sg.rs r y.1 sg.nr (wN l sg.bl) 130)) a.defers .returning w':=λh'=>by
   cases hz:S'.F.all AF.nz
   ·rw[hz]at h';cases h'
   rw[hz]at h';obtain⟨b,w2,hd,htk,hI2⟩:=K9.shut (P:=P) hI' hz;rw[hd];exact⟨by simp,.inl ⟨b,w2,rfl,htk,fin0 S' h' _ _ hI2⟩⟩
  cases e with
  |normal=>exact key hM
  |ret=>exact key hM
  |exit i=>cases hM
  |goto l=>cases hM
  |panic ch=>cases hM
  |outgrown=>cases hM
theorem apy[Itr]{C:Cx}(hC:C.ok P)(hm:P.follows .mixedOrders=true){f:FuncId}{fn:Func}(hf:P.funcs[f]?=some fn)(hname:(fn.name == "runtime.NumGoroutine")=false){an:An}{sg:Sig}
  {x:ja sg.ps} {r:d8 sg.rs} (hsem:aG C fn an sg x=some r) (hs:(Nat.ble sg.ps.length fn.ntmps&&Nat.ble (qE sg.ps) 64)=true):Qr P f sg x r:=
 XI hC hm hf hname (by simp only[aG,wu]at hsem;grind) (λ_ _ _ _ _=>⟨[],λA hA=>by simp at hA,hsem⟩) hs
theorem wl[Itr]{C:Cx}(hC:C.ok P)(hm:P.follows .mixedOrders=true){f:FuncId}{fn:Func}(hf:P.funcs[f]?=some fn)(hname:(fn.name == "runtime.NumGoroutine")=false)(hbody:fn.body.isSome=true){an:An}{t:TC}{rs:List TC}{nr:Nat}{ms:List RM}
  {F:List t.den->Option (d8 rs)} (hF:∀x,F x=wu [.isn 0 false] C fn an ⟨[.d (.slice t)],rs,nr,[],ms⟩ x) (h0:F []=wu [.isn 0 true] C fn an ⟨[.d (.slice t)],rs,nr,[],ms⟩ ([]:List t.den)) (hs:Nat.ble 1 fn.ntmps=true):Ctr.sound P f ⟨⟨[.d (.slice t)],rs,nr,[],ms⟩,F⟩:=by
 intro x r hr;refine XI hC hm hf hname (an:=an) hbody (λl hl w c hH=>?_) (by simp[hs,qE,PC.nh,TC.nh]);have hr:F x=some r:=hr;have hl:l.length=1:=by simpa[qE,PC.nh,TC.nh]using hl
 match l,hl with
 | [h],_=>
  cases hn:h.isNil with
  | false=>exact⟨[.isn 0 false],λA hA=>by
    simp only[aas,ad5,ZK]at hA;subst hA;intro w c;show(h.isNil=false);exact hn,(hF x).symm.trans hr⟩
  | true=>
   have hx:x=([]:List t.den):=by
    obtain⟨ys,hr,h1,h2,h3,h4⟩:=hH (.rep t.ty [1] x h) ZO;rcases h4 with⟨_,hc⟩|⟨b,off,arr,ty',fz,ha',_⟩
    ·simp_all
    ·simp[Hd.isNil,ha']at hn
   subst hx;exact⟨[.isn 0 true],λA hA=>by simp only[aas,ad5,ZK]at hA;subst hA;intro w c;show(h.isNil=true);exact hn,h0.symm.trans hr⟩
theorem am[Itr]{C:Cx}(hC:C.ok P)(hm:P.follows .mixedOrders=true){f:FuncId}{fn:Func}(hf:P.funcs[f]?=some fn)(hname:(fn.name == "runtime.NumGoroutine")=false){an:An}{sg:Sig}
  {F:ja sg.ps->Option (d8 sg.rs)} (hF:∀x,F x=aG C fn an sg x) (hs:(Nat.ble sg.ps.length fn.ntmps&&Nat.ble (qE sg.ps) 64)=true):Ctr.sound P f ⟨sg,F⟩:=
 λx _ hr=>apy hC hm hf hname (an:=an) ((hF x).symm.trans hr) hs
def aA(C:Cx)(f:FuncId)(ct:Ctr):Cx:={ C with Γ:=λg=>bif Nat.beq g f then ct::C.Γ g else C.Γ g}
theorem ao{C:Cx}(hC:C.ok P){f:FuncId}{ct:Ctr}(h:ct.sound P f):(aA C f ct).ok P:=by
 refine⟨λg c hg=>?_,hC.Θ,hC.G,hC.D,hC.I,hC.Y,hC.T⟩;simp only[aA]at hg;cases hb:Nat.beq g f
 ·rw[hb]at hg;exact hC.Γ g c hg
 ·rw[hb]at hg;simp only[Ze,aaa]at hg;rcases hg with rfl|hg
  ·simp_all
  ·exact hC.Γ g c hg
def ZJ(C:Cx)(d:DCtr)(W:Bool):Cx:={ C with D:=d::C.D,W:=W}
theorem PT{C:Cx}(hC:C.ok P){d:DCtr}{W:Bool}(h:d.sound P):(ZJ C d W).ok P:=
 ⟨hC.Γ,hC.Θ,hC.G,λe he=>by
  rcases aaa.1 he with rfl|he
  ·exact h
  ·exact hC.D e he,hC.I,hC.Y,hC.T⟩
def Cx.wr(C:Cx):Cx:={ C with W:=true}
theorem Cx.wr_ok{C:Cx}(h:C.ok P):C.wr.ok P:=⟨h.Γ,h.Θ,h.G,h.D,h.I,h.Y,h.T⟩
end
end
end Go.Sm
