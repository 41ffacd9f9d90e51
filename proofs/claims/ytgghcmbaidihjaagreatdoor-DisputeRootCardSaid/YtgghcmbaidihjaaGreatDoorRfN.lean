/- Laws for the row. No condition. -/
import Derived.Test.YtgghcmbaidihjaaGreatDoorRfJ
namespace Go.Sm
set_option linter.unusedSectionVars false
variable {i t:Nat} {draw:Bool} {o:Oper} {listed:Nat->Bool} {w:World} {ops:List Oper}
section
variable [X:XTab] [G:GTab] [Yc:GCx]
theorem qC{E a:SE}{v:AV}(h:bP (E++a) t=some v):bP E t=some v\/bP a t=some v:=by
 induction E with
 |nil=>exact .inr h
 |cons p r b=>
  simp only[afO,bP]at h|-;grind
theorem nG{E:SE}{v:AV}(h:bP E t=some v):(t,v)∈E:=by
 induction E with
 |nil=>simp[bP]at h
 |cons p r a=>
  grind[bP,Nat.beq,Option.some.injEq,Nat.eq_of_beq_eq_true]
theorem Fe{cl:List Nat}{g:List (Nat×Bool)}{d:Nat}{v:AV}:∀{es:List Ent} {b:Nat},(d,v)∈AL cl g es b->∃j e,es[j]?=some e/\e.d=some d/\v=e.u.av/\bU (b+j) cl=true/\oy e.g g=true
 |[],_,h=>by simp[AL]at h
 | e::r,b,h=>by
  have f:(d,v)∈AL cl g r (b+1)->∃j a,(e::r)[j]?=some a/\a.d=some d/\v=a.u.av/\bU (b+j) cl=true/\oy a.g g=true:=λh=>by obtain⟨j,a,k,l,m,q,p⟩:=Fe h;exact⟨j+1,a,by simpa using k,l,m,by grind,p⟩
  simp only[AL]at h;split at h
  ·rename_i d' hd;cases c:(bU b cl&&oy e.g g)
   ·grind
   ·rw[c]at h;simp only[abv]at h;rcases aen.1 h with h|h
    ·simp only[acW]at h;obtain⟨rfl,rfl⟩:=h;simp only[abF]at c;exact⟨0,e,rfl,hd,rfl,c.1,c.2⟩
    grind
  grind
theorem yT{cls:List (List Nat)}{i:Nat}{c:List Nat}{j:Nat}{f:AF}:∀{es:List Ent} {a:Nat},sU cls i c j f es a=false->∀{m:Nat} {e:Ent},es[m]?=some e->pE cls (a+m) i=true->a+m≠j->bU (a+m) c=false->gF e.u.κ f=false
 |[],_,_,m,e,b,_,_,_=>by simp at b
 | l::r,a,h,0,e,b,k,g,d=>by
  simp at b;subst b;simp only[sU,afJ]at h;rw[afu]at k g d;have p:Nat.beq a j=false:=by
   cases p:Nat.beq a j
   ·rfl
   simp_all
  grind[gF]
 |l::r,a,h,m+1,e,b,k,g,d=>by simp only[sU,afJ]at h;simp at b;rw[show a+(m+1)=a+1+m by omega]at k g d;exact yT h.2 b k g d
theorem EY{cls:List (List Nat)}{i:Nat}{cl:List Nat}{g:List (Nat×Bool)}{all:List Ent}{f:AF}:∀{es:List Ent} {a:Nat},f∈Fc cls i cl g all es a ->
  ∃j e,es[j]?=some e/\f∈e.u.fs/\bU (a+j) cl=true/\oy e.g g=true/\sU cls i (cls.getD (a+j) []) (a+j) f all 0=false
 |[],_,h=>by simp[Fc]at h
 | e::r,a,h=>by
  simp only[Fc,aef]at h;rcases h with h|h
  ·cases b:(bU a cl&&oy e.g g)
   ·grind
   ·rw[b]at h;simp only[abv,ae2,afm]at h;simp only[abF]at b;exact⟨0,e,rfl,h.1,b.1,b.2,h.2⟩
  ·obtain⟨j,c,d,k,m,l,p⟩:=EY h;exact⟨j+1,c,by simpa using d,k,by grind,l,by grind⟩
theorem F5{ds:List Nat}{E:SE}{v:AV}(h:bP (oE ds E) t=some v):bP E t=some v/\bU t ds=false:=by
 induction E with
 |nil=>simp[oE,bP]at h
 | cons p r c=>
  simp only[oE]at h;cases a:bU p.1 ds
  ·rw[a]at h;simp only[ab7,bP]at h|-;cases b:Nat.beq t p.1
   ·grind
   simp_all
  ·rw[a]at h;simp only[abv]at h;have:=c h;refine⟨?_,this.2⟩;simp only[bP];cases b:Nat.beq t p.1
   ·exact this.1
   simp_all
def chT(es:List Ent)(g:List (Nat×Bool)):Prop:=∀p∈g,∃e b,es[p.1]?=some e/\e.u.av=eS b/\b=p.2
theorem Ap:∀{a b:List (Nat×Bool)},oy a b=true->∀p∈a,p∈b
 |a,[],h=>by simp only[oy]at h;rw[OW h];grind
 |a,q::r,h=>by
  simp only[oy,afz]at h;rcases h with h|h
  ·rw[OW h];grind
  ·exactλp c=>abJ _ (Ap h p c)
section
variable {C:Cx} {P:Program} {n N nt:Nat} {cls:List (List Nat)} {ops:List Oper} {E:SE} {F:List AF} {es:List Ent}
theorem Z4(I:es.length=ops.length)(f:∀j o e,ops[j]?=some o->es[j]?=some e->yf C P n N cls ops E F o j (es.take j) e):∀(i:Nat) (e:Ent),es[i]?=some e->(ga e.ex↔chT es e.g):=by
 intro i;induction i using Nat.strongRecOn with
 | _ i S=>
  intro e H;have hi:=(aeI.1 H).1;have R:ops[i]?=some (ops[i]'(by omega)):=acz _;obtain⟨_,c,_⟩:=f i _ e R H;rcases c with c|⟨_,v,y⟩
  rotate_left
  ·rw[v,y];exact⟨λ_ p d=>by simp at d,λ_=>trivial⟩
  unfold Gm at c;split at c
  ·simp only[no,acW]at c;obtain⟨m,q⟩:=c;rw[<-m,<-q];exact⟨λ_ p d=>by simp at d,λ_=>trivial⟩
  ·rename_i j a _;split at c
   ·rename_i l O;split at c
    ·rename_i b M;simp only[no,acW]at c;obtain⟨m,q⟩:=c;have z:j<i:=by
      grind
     have g:es[j]?=some l:=by grind
     have:=S j z l g;rw[<-m,<-q];have k:((bif a then b else !b)=true)↔b=a:=by grind
     constructor
     ·intro U p d;have A:Um l.ex=true/\(bif a then b else !b)=true:=by
       grind[ga,Um]
      rcases aen.1 d with rfl|d
      ·grind
      ·exact this.1 (H3.2 A.1) p d
     ·intro D;obtain⟨T,J,r,K,L⟩:=D (j,a) adT;rw[g]at r;simp only[no]at r;subst r;rw[M]at K;have s:b=J:=by grind
      have h:=H3.1 (this.2 λp d=>D p (abJ _ d));have hl:=k.2 (s.trans L);cases u:l.ex with
      |none=>exact hl
      |some x=>rw[u]at h;simp only[Um]at h;show(x&&_)=true;grind
    ·cases c
   ·cases c
theorem Mq{es:List Ent}{e a:Ent}(b:ga e.ex↔chT es e.g)(c:ga a.ex↔chT es a.g)(hs:oy a.g e.g=true)(f:ga e.ex):ga a.ex:=
 c.2 λp d=>b.1 f p (Ap hs p d)
def RJ[Rd](B nt:Nat)(cls:List (List Nat))(ops:List Oper)(E:SE)(F:List AF)(es:List Ent)(L0:List HA)(β:Vn)(listed:Nat->Bool)(a:Act)(w:World):Prop:=
 ∃(b:Vn) (c:aS) (ρ:dm),Rel nt ρ a Rd.ds/\(∀t v,bP E t=some v->(∀m o,ops[m]?=some o->listed m=true->o.dst≠some t)->ρ t=v.val b) /\
  (∀j e,es[j]?=some e->listed j=true->∀d,e.d=some d->(ga e.ex->ρ d=e.u.av.val b)/\(¬ga e.ex->ρ d=undef)) /\
  (∀f∈F,(∀m e,es[m]?=some e->listed m=true->ga e.ex->gF e.u.κ f=false)->(f.ha b).holds w c) /\
  ((∀A∈L0,A.holds w c)/\∀m,m<B->b.b m=β.b m/\b.h m=β.h m) /\
  (∀j e,es[j]?=some e->listed j=true->ga e.ex->∀f∈e.u.fs,(∀m g,es[m]?=some g->listed m=true->ga g.ex->m≠j->bU m (cls.getD j [])=false->gF g.u.κ f=false)->(f.ha b).holds w c)
theorem sC{κ:List Nat}{f:AF}(h:gF κ f=false):∀k∈f.uses,k∉κ:=by intro k b a;have:=akv.1 h k a;exact this (mem_iff.2 b)
theorem Hp{d:Nat}(a:ops[i]?=some o)(hd:o.dst=some d):d∈uf ops:=
 List.mem_filterMap.2 ⟨o,aeK a,hd⟩
theorem Oc:∀{l:List Oper} {i j:Nat} {o e:Oper} {d d':Nat},wQ (uf l)=true->l[i]?=some o->l[j]?=some e->o.dst=some d->e.dst=some d'->i≠j->d≠d'
 |[],_,_,_,_,_,_,_,h,_,_,_,_=>by simp at h
 |q::l,0,0,_,_,_,_,_,_,_,_,_,c=>absurd rfl c
 |q::l,0,j+1,o,e,d,d',h,f,a,hd,b,_=>by grind[uf,wQ,Bool.not_eq_true',Hp,mem_iff]
 |q::l,i+1,0,o,e,d,d',h,f,a,hd,b,_=>by grind[uf,wQ,Bool.not_eq_true',Hp,mem_iff]
 | q::l,i+1,j+1,o,e,d,d',h,f,a,hd,b,c=>by
  simp at f a;refine Oc (l:=l) ?_ f a hd b (by omega);cases hq:q.dst with
  |none=>simpa[uf,hq]using h
  |some g=>
   have:uf (q::l)=g::uf l:=by simp[uf,hq]
   rw[this]at h;simp only[wQ,abF]at h;exact h.2
theorem pB(h:wJ C n N nt draw cls ops E F es=true){e:Ent}(r:ops[i]?=some o)(y:es[i]?=some e) :
  e.u.av.okN n (i::cls.getD i [])=true/\(∀f∈e.u.fs,f.okN n (i::cls.getD i [])=true)/\(e.u.κ=[]\/(zr C o=true/\(∀k∈e.u.κ,2<=k)/\e.ex=none))/\(∀d,e.d=some d->Nat.blt d nt=true) /\
  (∀j w,o.guard=some (j,w)->bU j (cls.getD i [])=true/\∃m d,es[j]?=some m/\m.d=some d)/\(wo ops o=true->(∃j,j<i/\pE cls i j=true)->∀k∈e.u.κ,N<=k)/\(∀kd,C.K=some kd->wo ops o=false->(∃j,j<i/\pE cls i j=true)->∀k∈e.u.κ,N<=k\/k∈kd):=by
 simp only[wJ,abF]at h;have hi:=(aeI.1 r).1;have p:=acr.1 h.2 i (af1.2 hi);simp only[atl,r,y,abF]at p;obtain⟨⟨⟨⟨⟨⟨s,u⟩,A⟩,D⟩,a⟩,b⟩,v⟩:=p;refine⟨s,acr.1 u,?_,?_,?_,(λhs c k q=>by
  obtain⟨j,g,l⟩:=c;rw[hs]at b;simp only[afg,ajU,afz]at b;rcases b with b|b
  ·simp_all
  grind),(λkd x hs c k q=>by
  obtain⟨j,g,l⟩:=c;rw[x]at a;simp only[hs,ajU,afz]at a;rcases a with a|a
  ·have:=acr.1 a k q;simp only[afz]at this;exact this.imp abM mem_iff.1
  grind)⟩
 ·grind[Nat.le_of_ble_eq_true,List.all_eq_true]
 ·grind
 ·intro j w z;rw[z]at v;grind[Option.isSome_iff_exists]
theorem JL{cls:List (List Nat)}{i:Nat}{d:Nat}:∀{l:List Oper} {m0 m:Nat} {o:Oper},l[m]?=some o->o.dst=some d->pE cls (m0+m) i=true->d∈Ac cls i l m0
 |[],_,_,_,h,_,_=>by simp at h
 |q::l,m0,0,o,h,hd,a=>by grind[Ac]
 |q::l,m0,m+1,o,h,hd,a=>by simp at h;have:=JL (m0:=m0+1) h hd (by rwa [show m0+1+m=m0+(m+1)by omega]);simp only[Ac];grind
theorem TK{cls:List (List Nat)}{i:Nat}{ops:List Oper}:∀{l:List Oper} {a:Nat},ut C cls ops i l a=false->∀{m:Nat} {o:Oper},l[m]?=some o->i<a+m->pE cls (a+m) i=true->zr C o=true->wo ops o=true
 |[],_,_,m,o,h,_,_=>by simp at h
 |q::r,a,h,0,o,b,hi,c=>by simp at b;subst b;simp only[ut,afJ]at h;simp_all
 |q::r,a,h,m+1,o,b,hi,c=>by simp only[ut,afJ]at h;simp at b;rw[show a+(m+1)=a+1+m by omega]at hi c;exact TK h.2 b hi c
theorem Sj{cls:List (List Nat)}{i:Nat}{ops:List Oper}:∀{l:List Oper} {a:Nat},xV C cls ops i l a=false->∀{m:Nat} {o:Oper},l[m]?=some o->i<a+m->pE cls (a+m) i=true->zr C o=true->wo ops o=false
 |[],_,_,m,o,h,_,_=>by simp at h
 |q::r,a,h,0,o,b,hi,c=>by simp at b;subst b;simp only[xV,afJ]at h;simp_all
 |q::r,a,h,m+1,o,b,hi,c=>by simp only[xV,afJ]at h;simp at b;rw[show a+(m+1)=a+1+m by omega]at hi c;exact Sj h.2 b hi c
theorem ae5(O:wJ C n N nt draw cls ops E F es=true)(K:es.length=ops.length)(J:∀j o e,ops[j]?=some o->es[j]?=some e->yf C P n N cls ops E F o j (es.take j) e)
    {e:Ent} (he:es[i]?=some e) (hx:ga e.ex) (hf:listed i=false) (hcl:∀j,bU j (cls.getD i [])=true->listed j=true)
  (hun:∀m,m<ops.length->listed m=true->bU i (cls.getD m [])=false) {I:Vn} {ρ:dm}  {c:aS}
  (hE:∀t v,bP E t=some v->(∀m o,ops[m]?=some o->listed m=true->o.dst≠some t)->ρ t=v.val I)
  (hV:∀j e,es[j]?=some e->listed j=true->∀d,e.d=some d->(ga e.ex->ρ d=e.u.av.val I)/\(¬ga e.ex->ρ d=undef))
  (hB:∀f∈F,(∀m e,es[m]?=some e->listed m=true->ga e.ex->gF e.u.κ f=false)->(f.ha I).holds w c)
  (hR:∀j e,es[j]?=some e->listed j=true->ga e.ex->∀f∈e.u.fs,(∀m l,es[m]?=some l->listed m=true->ga l.ex->m≠j->bU m (cls.getD j [])=false->gF l.u.κ f=false)->(f.ha I).holds w c) :
  mH I ρ (Cc cls ops E i e.g (es.take i))/\ao w c ((rL C N cls ops F i e.g (es.take i)).map (AF.ha I)):=by
 have hch:=Z4 K J;have H:∀{j:Nat} {l:Ent},(es.take i)[j]?=some l->es[j]?=some l/\j<i:=λ{j l} h=>by grind
 have z:∀(f:AF) (u:List Nat) (j:Nat),sU cls i u j f (es.take i) 0=false->(ut C cls ops i ops 0=true->KR C.K N f=true)->(ut C cls ops i ops 0=false->xV C cls ops i ops 0=true->Gs N f=true)->∀m l,es[m]?=some l->listed m=true->m≠j->bU m u=false->gF l.u.κ f=false:=by
  intro f u j hh g p m l D hl hj hc;have L:m<ops.length:=by grind
  have b:ops[m]?=some ops[m]:=acz L;have hmi:m≠i:=λe=>by grind
  have r:pE cls m i=true:=by grind[Nat.beq,absurd,pE,Nat.eq_of_beq_eq_true,Bool.not_false,Bool.and_self]
  rcases afB m i with h|h
  ·grind[yT]
  ·rcases(pB O b D).2.2.1 with U|⟨U,W,_⟩
   ·rw[U];rfl
   ·cases y:ut C cls ops i ops 0
    ·have a:=TK y b (by omega) (by grind) U;cases V:xV C cls ops i ops 0
     ·grind[Sj]
     ·have hs:=p y V;have h3:=(pB O b D).2.2.2.2.2.1 a ⟨i,by omega,r⟩;refine akv.2 λk x q => ?_;have R:k+1<=N:=abM (acr.1 hs k (mem_iff.1 q));grind
    ·have hs:=g y;refine akv.2 λk x q => ?_;cases S:C.K with
     |none=>
      rw[S]at hs;have:=acr.1 (show aod f=true from hs) k (mem_iff.1 q);have:=abM this;grind
     | some kd=>
      rw[S]at hs;simp only[KR,abF,afm]at hs;have R:k+1<=N:=abM (acr.1 hs.1 k (mem_iff.1 q));cases a:wo ops ops[m]
      ·rcases(pB O b D).2.2.2.2.2.2 kd S a ⟨i,by omega,r⟩ k x with M|M
       ·omega
       ·have:=akv.1 hs.2 k M;exact this q
      ·have h3:=(pB O b D).2.2.2.2.2.1 a ⟨i,by omega,r⟩ k x;omega
 constructor
 ·intro t v hl;rcases qC hl with h|h
  ·obtain⟨j,l,Z,W,rfl,R,M⟩:=Fe (nG h);grind[Mq]
  ·have h:=F5 h;refine hE t v h.1 λm o b hlm hdm=>?_;have L:=(aeI.1 b).1;grind[Nat.beq,absurd,pE,Nat.eq_of_beq_eq_true,JL,Bool.not_false,Bool.and_self,mem_iff]
 ·intro A hA;obtain⟨f,T,rfl⟩:=acG.1 hA;have s:f∈Fc cls i (cls.getD i []) e.g (es.take i) (es.take i) 0++F.filter (λf=>!(sU cls i [] ops.length f (es.take i) 0))/\(ut C cls ops i ops 0=true->KR C.K N f=true)/\(ut C cls ops i ops 0=false->xV C cls ops i ops 0=true->Gs N f=true):=by
   unfold rL at T;grind
  obtain⟨s,g,p⟩:=s;rcases aef.1 s with h|h
  ·obtain⟨j,l,Z,W,R,M,h6⟩:=EY h;grind[Mq]
  ·simp only[ae2,afm]at h;exact hB f h.1 λm Y D hl _=>z f [] ops.length h.2 g p m Y D hl (by grind) rfl
end
end
section
variable [X:XTab] [G:GTab] [Yc:GCx]
def ayt(A:HA):Prop:=∀k∈A.uses,k<2
structure L0ok(L0:List HA):Prop where
  old:∀A∈L0,ayt A
  gl:∀A∈fH,A∈L0
section
variable {C:Cx} {P:Program} {B n N nt:Nat} {cls:List (List Nat)} {ops:List Oper} {E:SE} {F:List AF} {es:List Ent} {Q:Exit->Act->World->Prop} {L0:List HA} {β:Vn}
def rd(listed:Nat->Bool)(i:Nat):Nat->Bool:=λj=>Nat.beq j i||listed j
theorem Ho{j:Nat}(h:j≠i):rd listed i j=listed j:=by
  have:Nat.beq j i=false:=by
    cases a:Nat.beq j i
    ·rfl
    simp_all
  simp[rd,this]
theorem aqv(h:lT n E F=true){v:AV}(hl:bP E t=some v)(i:Nat):v.free (n+64*i)=true:=by simp only[lT,abF]at h;have:=acr.1 h.1 _ (nG hl);exact v.okN_free (cl:=[]) (by simp) this
theorem Qy[Rd](h64:B≤n)(hb:wJ C n N nt draw cls ops E F es=true)(hlen:es.length=ops.length)(K:∀j o e,ops[j]?=some o->es[j]?=some e->yf C P n N cls ops E F o j (es.take j) e)(hL0:L0ok L0)
       (ho:ops[i]?=some o) (hndo:ndO o.op=true) (hf:listed i=false) (hcl:∀j,bU j (cls.getD i [])=true->listed j=true)
    (hun:∀m,m<ops.length->listed m=true->bU i (cls.getD m [])=false) {a:Act}  (hJ:RJ B nt cls ops E F es L0 β listed a w) :
    wpOpIn tj 0 P ops.toArray Q i (RJ B nt cls ops E F es L0 β (rd listed i)) a w:=by
  obtain⟨η,c,ρ,ha,hE,hV,hB,hL,hR⟩:=hJ;have hi:=(aeI.1 ho).1;have he:es[i]?=some (es[i]'(by omega)):=acz _;generalize hee:es[i]'(by omega)=e at he;obtain⟨hd,R,hsem⟩:=K i o e ho he;obtain⟨b1,b2,b3,b4,b5,_⟩:=pB hb ho he;have O:lT n E F=true:=by simp only[wJ,abF]at hb;exact hb.1.2
  have hnd:wQ (uf ops)=true:=by simp only[wJ,abF]at hb;exact hb.1.1.2
  have next:∀(v:Value) (η':Vn) (w':World) (c':aS),η.agr (n+64*i) η'->Stp e.u.κ w c w' c'->(e.u.κ=[]\/ga e.ex)->((ga e.ex->v=e.u.av.val η'/\∀f∈e.u.fs,(f.ha η').holds w' c')/\(¬ga e.ex->v=undef)) ->
      RJ B nt cls ops E F es L0 β (rd listed i) (a.put o.dst v) w':=by
    intro v η' w' c' J hst b hv;refine⟨η',c',(match o.dst with|some d=>Bh ρ d v|none=>ρ),?_,?_,?_,?_,?_,?_⟩
    · cases hod:o.dst with
      |none=>exact ha
      |some d=>exact ha.put (b4 d (by rw[hd,hod])) v
    · intro t u hl L
      rw[AV.val_agr J u (aqv O hl i)]
      have V:=hE t u hl λm o' hm hlm=>L m o' hm (by simp[rd,hlm])
      cases hod:o.dst with
      |none=>exact V
      | some d=>
        have hne:Nat.beq t d=false:=by
          cases hbb:Nat.beq t d
          ·rfl
          ·exact absurd (by rw[hod,f9 hbb]) (L i o ho (by simp[rd]))
        simp only[Bh,hne,ab7];exact V
    · intro j T hj hlj d' hd'
      by_cases hji:j=i
      · subst hji
        rw[he]at hj
        simp only[no]at hj
        subst hj
        rw[hd]at hd'
        rw[hd']
        have:Bh ρ d' v d'=v:=by simp[Bh]
        grind
      · rw[Ho hji]at hlj
        have hjl:j<ops.length:=by grind
        have M:ops[j]?=some ops[j]:=acz hjl
        obtain⟨hdj,_,_⟩:=K j _ T M hj
        have g:T.u.av.free (n+64*i)=true:=T.u.av.okN_free (by grind[mem_iff]) (pB hb M hj).1
        rw[AV.val_agr J _ g]
        have V:=hV j T hj hlj d' hd'
        cases hod:o.dst with
        |none=>exact V
        | some d=>
          grind[Nat.beq,absurd,Bh,Nat.eq_of_beq_eq_true,Oc]
    · intro f hfF L
      have g:f.free (n+64*i)=true:=by simp only[lT,abF]at O;exact f.okN_free (cl:=[]) (by simp) (acr.1 O.2 f hfF)
      rw[AF.ha_agr J f g]
      refine HA.stp hst _ (λk hk=>?_) (hB f hfF λm T hm hl I=>L m T hm (by simp[rd,hl]) I)
      rw[AF.ha_uses]at hk
      rcases b with b|b
      ·rw[b];simp
      ·exact sC (L i e he (by simp[rd]) b) k hk
    · refine⟨λA hA=>?_,λm hm=>?_⟩
      rotate_left
      · have hz:=J m (by simp only[out,afz];exact .inl (aeo (by omega)))
        grind
      refine HA.stp hst A (λk hk=>?_) (hL.1 A hA)
      have h2:=hL0.old A hA k hk
      grind
    · intro j T hj hlj I f hf' L
      by_cases hji:j=i
      ·grind
      · rw[Ho hji]at hlj
        have hjl:j<ops.length:=by grind
        have M:ops[j]?=some ops[j]:=acz hjl
        have hnm:bU i (cls.getD j [])=false:=hun j hjl hlj
        have g:f.free (n+64*i)=true:=f.okN_free (by grind[mem_iff]) ((pB hb M hj).2.1 f hf')
        rw[AF.ha_agr J f g]
        refine HA.stp hst _ (λk hk=>?_) (hR j T hj hlj I f hf' λm e2 hm hl hx2 hmj hmc=>L m e2 hm (by simp[rd,hl]) hx2 hmj hmc)
        rw[AF.ha_uses]at hk
        rcases b with b|b
        ·rw[b];simp
        ·exact sC (L i e he (by simp[rd]) b (aqR hji) hnm) k hk
  have hnd':∀c,o.op≠.defer c:=λc h=>by rw[h]at hndo;cases hndo
  have run:ga e.ex→o.wpIn tj 0 P a w (RJ B nt cls ops E F es L0 β (rd listed i)) Q:=by
    intro I;obtain⟨hpE,hpF⟩:=ae5 hb hlen K he I hf hcl hun hE hV hB hR;refine⟨λ_ _=>trivial,?_⟩;rw[ha.eval,Oper.semAt_eq _ _ _ hnd'];refine agR ?_;rcases hsem with⟨cc,aa,bb,v,hop,z,hu⟩|hsem
    ·
      have hv:aZ P ρ o [] (.bool v):=by
        unfold Lx at z;split at z
        · rename_i t
          split at z
          · rename_i jc ec hfc
            have D:∀{t:Nat} {l:List Ent} {j0 j:Nat} {e:Ent},yj t l j0=some (j,e)->j0<=j/\l[j-j0]?=some e/\e.d=some t:=by
              intro t l;induction l with
              |nil=>intro j0 j e h;simp[yj]at h
              | cons q r ih=>
                intro j0 j e h;simp only[yj]at h;have tail:yj t r (j0+1)=some (j,e)->j0<=j/\(q::r)[j-j0]?=some e/\e.d=some t:=λh=>by obtain⟨h1,h2,h3⟩:=ih h;refine⟨by omega,?_,h3⟩;rw[show j-j0=(j-(j0+1))+1 by omega];simpa using h2
                split at h
                · rename_i d hdq
                  cases hbb:Nat.beq t d
                  ·grind
                  · rw[hbb]at h
                    simp only[abv,no,acW]at h
                    grind[Nat.eq_of_beq_eq_true]
                grind
            have H:∀{j:Nat} {T:Ent},(es.take i)[j]?=some T->es[j]?=some T:=λ{j T} h=>by grind
            have Y:=Z4 hlen K
            cases hmb:(bU jc (cls.getD i [])&&oy ec.g e.g)
            ·grind
            · rw [hmb] at z
              simp only[abv]at z
              simp only[abF]at hmb
              split at z
              · rename_i x p q hxv S hq
                simp only[no]at z
                subst z
                obtain⟨_,hgc,hdc⟩:=D hfc
                have hgc:=H hgc
                rw[akV]at hgc
                have hxc:=Mq (Y i e he) (Y jc ec hgc) hmb.2 I
                have hcv:ρ t=.bool x:=by rw[(hV jc ec hgc (hcl jc hmb.1) t hdc).1 hxc,hxv];rfl
                have branch : ∀{W:Bool} {y:Operand} {p:Bool},La (cls.getD i []) e.g (es.take i) jc W y=some p->x=W->aL ρ y=.bool p:=by
                  intro W y p S hs;unfold La at S;split at S
                  ·simp only[no]at S;subst S;rfl
                  · rename_i t'
                    split at S
                    · rename_i j ej hfj
                      cases U:(bU j (cls.getD i [])&&(oy ej.g e.g||ZE ej.g jc W e.g))
                      ·grind
                      · rw [U]at S
                        simp only[abv]at S
                        simp only[abF,afz]at U
                        obtain⟨_,Z,hdj⟩:=D hfj
                        have Z:=H Z
                        rw[akV]at Z
                        have hxj:ga ej.ex:=by
                          rcases U.2 with h|h
                          ·exact Mq (Y i e he) (Y j ej Z) h I
                          · refine(Y j ej Z).2 λpr hpr=>?_
                            unfold ZE at h
                            split at h
                            · rename_i j' s g' hgg
                              simp only[abF,aix]at h
                              obtain⟨⟨h1,h2⟩,h3⟩:=h
                              rw[hgg]at hpr
                              rcases aen.1 hpr with rfl|hpr
                              ·grind[Nat.eq_of_beq_eq_true]
                              ·exact(Y i e he).1 I pr (Ap h3 pr hpr)
                            ·cases h
                        split at S
                        · rename_i b' hbv
                          simp only[no]at S
                          subst S
                          show ρ t'=.bool b'
                          rw[(hV j ej Z (hcl j U.1) t' hdj).1 hxj,hbv];rfl
                        ·cases S
                    ·cases S
                  ·cases S
                exact aur hop hcv (λhxt=>branch S hxt) (λhxf=>branch hq hxf)
              ·cases z
          ·cases z
        ·cases z
      rw[hv _ w c rfl (ao.nil _ _)]
      refine next (.bool v) η w c (Vn.agr_refl _ η) ?_ (.inr I) ⟨λ_=>⟨by rw[hu];rfl,λf hf'=>by grind⟩,λh=>absurd I h⟩
      rw[hu];exact Stp.refl w c
    ·exact hsem I η ρ hpE a _ w c _ Q rfl (ao.append hpF λA hA=>hL.1 A (hL0.gl A hA)) λy w' c' hst hF=>next _ y.1 w' c' y.2 hst (.inr I) ⟨λ_=>⟨rfl,λf hf'=>hF _ (acG.2 ⟨f,hf',rfl⟩)⟩,λh=>absurd I h⟩
  have skip:¬ga e.ex->RJ B nt cls ops E F es L0 β (rd listed i) (a.put o.dst undef) w:=by
    intro I;have b:e.u.κ=[]:=by
      rcases b3 with h|⟨_,_,h⟩
      ·exact h
      · exfalso
        rw[h]at I
        exact I trivial
    exact next undef η w c (Vn.agr_refl _ η) (by rw[b];exact Stp.refl w c) (.inl b) ⟨λh=>absurd h I,λ_=>rfl⟩
  unfold wpOpIn;rw[show ops.toArray[i]?=some o by simpa using ho];simp only
  have hw:Region.wanted o (yielded ops.toArray a.tmps)=true↔ga e.ex:=by
    have key : ∀{g0:List (Nat×Bool)} {ex0:Option Bool},Gm (es.take i) o.guard=some (g0,ex0)->(Region.wanted o (yielded ops.toArray a.tmps)=true↔ga ex0):=by
     intro g0 ex0 R;cases hgo:o.guard with
     | none=>
       grind[Gm,Region.wanted,ga]
     | some jw=>
       obtain⟨j,want⟩:=jw;obtain⟨hjc,ej,dj,hej,hdj⟩:=b5 j want hgo;rw[hgo]at R;unfold Gm at R;simp only at R;split at R
       · rename_i T he'
         have hej':es[j]?=some T:=by grind
         rw[hej]at hej'
         simp only[no]at hej'
         subst hej'
         split at R
         · rename_i bv hbv
           simp only[no,acW]at R
           obtain⟨_,hex⟩:=R
           have hjl:j<ops.length:=by grind
           have M:ops[j]?=some ops[j]:=acz hjl
           obtain⟨hdo,_,_⟩:=K j _ ej M hej
           have hy:=abX (n:=nt) ha M (by grind) ((pB hb M hej).2.2.2.1 dj hdj)
           have hv:=hV j ej hej (hcl j hjc) dj hdj
           simp only[Region.wanted,hgo,hy]
           rw[<-hex]
           by_cases hxe:ga ej.ex
           · rw[hv.1 hxe,hbv]
             have h1:=H3.1 hxe
             simp only[eS,AV.val,Lf.val]
             cases hee2:ej.ex with
             |none=>cases want<;>cases bv<;>simp[ga]
             | some x=>
               grind[Um,ga]
           · rw[hv.2 hxe]
             cases hee2:ej.ex with
             |none=>rw[hee2]at hxe;exact absurd trivial hxe
             | some x=>
               rw[hee2]at hxe;have hxf:x=false:=by cases x<;>simp_all[ga]
               subst hxf;rfl
         ·cases R
       ·cases R
    rcases R with R|⟨⟨g0,R⟩,_,hg2⟩
    ·exact key R
    · rw[hg2]
      exact⟨λ_=>trivial,λ_=>(key R).2 rfl⟩
  split
  ·exact run (hw.1 ‹_›)
  · rename_i hnw
    exact⟨λ_ _=>trivial,skip λI=>hnw (hw.2 I)⟩
end
end
section
variable [X:XTab] [G:GTab] [Yc:GCx]
structure SS where
 E:SE
 F:List AF
 nn:Nat
 nc:Nat
 d:List Nat
def live(d:List Nat)(KF:List AF):List AF:=KF.filter λf=>!(gF d f)
theorem Az(KF:List AF):live [] KF=KF:=by unfold live;exact List.filter_eq_self.2 λf _=>rfl
theorem uj(a b:List Nat)(f:AF):gF (a++b) f=(gF a f||gF b f):=by simp[gF]
theorem acH(a b:List Nat)(KF:List AF):live a (live b KF)=live (a++b) KF:=by unfold live;rw[List.filter_filter];congr 1;funext f;rw[uj];grind
theorem S6(d:List Nat)(a b:List AF):live d (a++b)=live d a++live d b:=by simp[live]
def gj[Rd](B nt:Nat)(L0:List HA)(β:Vn)(KE:SE)(KF:List AF)(S:SS)(a:Act)(w:World):Prop:=
 ∃(η:Vn) (c:aS) (ρ:dm),Rel nt ρ a Rd.ds/\mH η ρ (S.E++KE)/\ao w c ((S.F++live S.d KF).map (AF.ha η))/\ao w c L0/\∀m,m<B->η.b m=β.b m/\η.h m=β.h m
def Le(KE:SE)(ops:List Oper):Bool:=KE.all (λp=>!(bU p.1 (uf ops)))&&ops.all (λo=>ndO o.op)
theorem P3{KE:SE}(h:Le KE ops=true)(a:ops[i]?=some o):ndO o.op=true:=
 acr.1 ((abF _ _).mp h).2 o (aeK a)
def au1(KF:List AF)(es:List Ent):List Nat:=(es.flatMap λe=>e.u.κ).filter λk=>KF.any (gF [k])
def X5(cls:List (List Nat))(ops:List Oper)(KF:List AF)(S:SS)(es:List Ent):SS:=
 ⟨AL (List.range ops.length) [] es 0++oE (uf ops) S.E,Fc cls ops.length (List.range ops.length) [] es es 0++S.F.filter (λf=>!(sU cls ops.length [] ops.length f es 0)),
  S.nn+64*ops.length,S.nc+(512*ops.length+256),au1 KF es++S.d⟩
def Gg{R:Type}(C:Cx)(nt:Nat)(draw:Bool)(ops:List Oper)(KE:SE)(KF:List AF)(S:SS)(K:SS->Option R):Option R:=
 bif Nat.ble C.B S.nn then CQ C S.nn S.nc (iN draw ops) ops (S.E++KE) (S.F++live S.d KF) ops 0 [] λes=>
  bif wJ C S.nn S.nc nt draw (iN draw ops) ops (S.E++KE) (S.F++live S.d KF) es&&Le KE ops then K (X5 (iN draw ops) ops KF S es)else none
 else none
section
variable {C:Cx} {P:Program} {nt:Nat} {KE:SE} {KF:List AF} {L0:List HA} {β:Vn}
theorem w9(ds:List Nat):∀(E a:SE),oE ds (E++a)=oE ds E++oE ds a
 |[],_=>rfl
 |p::r,a=>by
  simp only[afO,oE];cases bU p.1 ds
  ·simp[w9 ds r a]
  ·simp[w9 ds r a]
theorem Pw{ds:List Nat}:∀{E:SE},E.all (λp=>!(bU p.1 ds))=true->oE ds E=E
 |[],_=>rfl
 |p::r,h=>by simp only[afR,abF,afm]at h;simp only[oE,h.1,ab7,Pw h.2]
theorem Vy[Rd]{n N:Nat}{S:SS}{es:List Ent}(_:S.nn=n)(K:wJ C n N nt draw (iN draw ops) ops (S.E++KE) (S.F++live S.d KF) es=true)(z:Le KE ops=true)(u:es.length=ops.length)
  (r:∀j o e,ops[j]?=some o->es[j]?=some e->yf C P n N (iN draw ops) ops (S.E++KE) (S.F++live S.d KF) o j (es.take j) e)  (hl:∀i,i<ops.length->listed i=true) {a:Act} 
  (O:RJ C.B nt (iN draw ops) ops (S.E++KE) (S.F++live S.d KF) es L0 β listed a w):gj C.B nt L0 β KE KF (X5 (iN draw ops) ops KF S es) a w:=by
 obtain⟨η,c,ρ,ha,hE,hV,J,R,hR⟩:=O;have z:=((abF _ _).mp z).1;have y:=Z4 u r;have hx0:∀{j:Nat} {e:Ent},es[j]?=some e->oy e.g []=true->ga e.ex:=λ{j e} U hs=>by refine(y j e U).2 λp Z=>?_;have:=Ap hs p Z;simp at this
 have L:∀m,m<ops.length->pE (iN draw ops) m ops.length=true:=by
  intro m D;have H:Nat.beq m ops.length=false:=by grind[Nat.beq,Nat.eq_of_beq_eq_true]
  have x:bU ops.length ((iN draw ops).getD m [])=false:=by
   simp only[wJ,abF]at K;have T:=K.1.1.1.2;cases b:bU ops.length ((iN draw ops).getD m [])
   ·rfl
   ·exfalso;rw[aee]at b;cases d:(iN draw ops)[m]? with
    |none=>rw[d]at b;simp[bU]at b
    |some cl=>
     rw[d]at b;have I:=acr.1 (acr.1 T cl (aeK d)) _ (mem_iff.1 b);have:ops.length+1<=ops.length:=abM I;omega
  simp only[pE,H,x,aeN,ahg]
 have g:∀(f:AF) (q:List Nat) (j:Nat),sU (iN draw ops) ops.length q j f es 0=false->∀m l,es[m]?=some l->m≠j->bU m q=false->gF l.u.κ f=false:=by grind[yT]
 refine⟨η,c,ρ,ha,?_,?_,R⟩
 ·intro t v s;simp only[X5,aeh]at s;rcases qC s with h|h
  ·obtain⟨j,e,H,x,rfl,_,h5⟩:=Fe (nG h);grind
  ·have x:bP (oE (uf ops) (S.E++KE)) t=some v:=by
    rw[w9,Pw z];exact h
   have I:=F5 x;grind[mem_iff,Hp]
 ·intro A M;obtain⟨f,hf,rfl⟩:=acG.1 M;simp only[X5,aeh]at hf;rcases aef.1 hf with h|h
  ·grind[EY]
  ·rcases aef.1 h with h|h
   ·simp only[ae2,afm]at h;exact J f (ad2 _ h.1) λm l D _ _=>g f [] ops.length h.2 m l D (by grind) rfl
   ·simp only[live,ae2,afm,uj,afJ]at h;refine J f (adF _ (ae2.2 ⟨h.1,by grind⟩)) λm l D _ _=>?_;cases V:gF l.u.κ f
    ·rfl
    ·exfalso;obtain⟨k,W,Y⟩:=aiF.1 V;grind[gF,au1]
theorem adR[Rd]{R:Type}(hC:C.ok P)(hm:P.follows .mixedOrders=true){S:SS}{K:SS->Option R}{r:R}(h:Gg C nt draw ops KE KF S K=some r) :
  ∃S',K S'=some r/\∀{L0:List HA} {β:Vn},L0ok L0->∀(id:Nat) (Q:Exit->Act->World->Prop) (a:Act) (w:World),gj C.B nt L0 β KE KF S a w->(∀a w,gj C.B nt L0 β KE KF S' a w->Q .normal a w)->(Code.region id ops.toArray draw).wpIn tj 0 P Q a w:=by
 unfold Gg at h;cases l:Nat.ble C.B S.nn
 ·grind
 rw[l]at h;simp only[abv]at h;have l:=abM l;obtain⟨es,h1,b,g⟩:=aco hC h (by simp) rfl (λj o e _ he=>by simp at he);rw[ahw]at b;cases u:(wJ C S.nn S.nc nt draw (iN draw ops) ops (S.E++KE) (S.F++live S.d KF) es&&Le KE ops)
 ·grind
 ·rw [u]at h1;simp only[abF]at u;refine⟨_,h1,λ{L0 β} L id Q a w hI hQ=>?_⟩;have s:∀w',(∀A:HA,∀c,A.holds w c->A.holds w' c)->RJ C.B nt (iN draw ops) ops (S.E++KE) (S.F++live S.d KF) es L0 β (λ_=>false) a w':=by
   intro w' hw;obtain⟨η,c,ρ,ha,hE,hF,hL⟩:=hI;exact⟨η,c,ρ,ha,λt v hl _=>hE t v hl,λ_ _ _ Y=>by simp at Y,λf hf _=>hw _ c (hF _ (acG.2 ⟨f,hf,rfl⟩)),⟨λA hA=>hw _ c (hL.1 A hA),hL.2⟩,λ_ _ _ Y=>by simp at Y⟩
  cases draw with
  | false=>
   refine wpIn_region ?_;rw[show(ops.toArray).size=ops.length by simp,List.range_eq_range'];have gen:∀(m k:Nat) (a:Act) (w:World),k+m=ops.length->RJ C.B nt (iN false ops) ops (S.E++KE) (S.F++live S.d KF) es L0 β (λj=>Nat.blt j k) a w->wpOpsIn tj 0 P ops.toArray Q (List.range' k m) a w:=by
    intro m;induction m with
    |zero=>
     intro k a w hk D;exact hQ a w (Vy rfl u.1 u.2 b g (λi hi=>aeo (by omega)) D)
    | succ m ih=>
     intro k a w hk D;rw[List.range'_succ,wpOpsIn_cons];have O:k<ops.length:=by omega
     have x:(iN false ops).getD k []=List.range k:=by simp only[iN,ab7];grind
     have d:=Qy (Q:=Q) l u.1 b g L (o:=ops[k]) (acz O) (P3 u.2 (acz O)) (listed:=λj=>Nat.blt j k) (by
      show Nat.blt k k=false;cases M:Nat.blt k k
      ·rfl
      simp_all) (λj J=>by
       rw[x]at J;have:=mem_iff.1 J;simp_all) (λq hq I=>by
       have hqk:q+1<=k:=abM I;grind[iN,List.range,bU,mem_iff]) D
     refine wpOpIn_mono (λU w' V=>ih (k+1) U w' (by omega) ?_) d;have:rd (λj=>Nat.blt j k) k=λj=>Nat.blt j (k+1):=by
      funext j;by_cases J:j=k
      ·subst J;simp[rd,Nat.blt]
      ·rw[Ho J];cases hb1:Nat.blt j k<;>cases W:Nat.blt j (k+1)<;>first|rfl|skip
       ·have:j+1<=k+1:=abM W;grind[Nat.blt,Nat.ble_eq_true_of_le]
       grind[Nat.blt,Nat.le_of_ble_eq_true,Nat.ble_eq_true_of_le]
     grind
   refine gen ops.length 0 a w (by omega) ?_;have:=s w (λ_ _ h=>h);have e:(λ_:Nat=>false)=λj=>Nat.blt j 0:=by funext j;rfl
   grind
  | true=>
   have x:HN ops (iN true ops)=true:=by grind[wJ]
   refine wpIn_region_any hm ?_;have Z:∀A:HA,∀c,A.holds w c->A.holds { w with drawn:=w.drawn+1} c:=λA c h=>HA.stp (akW (w:=w) (c:=c)) A (by simp) h;refine abB x (p:=ops.length) ?_ (ad3 _) (λlisted a w=>RJ C.B nt (iN true ops) ops (S.E++KE) (S.F++live S.d KF) es L0 β (λj=>listed.getD j false) a w) ?_ ?_ _ _ _ _ (by simp) (λi o _ hi=>by rw[Bt]at hi;cases hi) (by simpa using adL _ _) (.inl ⟨?_,λi _=>Bt _ i⟩)
   ·refine acr.2 λi hi=>?_;simp_all
   ·intro listed U w' D H _;rw[aiI];exact wpListIn_nil (hQ U w' (Vy rfl u.1 u.2 b g H D))
   ·intro listed U w' i o D hd hsz hip T hf hp;have y:∀(i:Nat) (o:Oper),ops[i]?=some o->(∀j∈un o,listed.getD j false=true)->∀j,bU j ((iN true ops).getD i [])=true->listed.getD j false=true:=by
     intro i o T hp j J;obtain⟨c,hc⟩:=asD x (aeI.1 T).1;grind[yY,mem_iff]
    have d:=Qy (Q:=Q) l u.1 b g L T (P3 u.2 T) (listed:=λj=>listed.getD j false) hf (y i o T hp) (λq hq I=>by
     cases M:bU i ((iN true ops).getD q [])
     ·rfl
     ·have:=y q ops[q] (acz hq) (hd q ops[q] (acz hq) I) i M;grind) D
    refine wpOpIn_mono (λa'' w'' V => ?_) d;have:rd (λj=>listed.getD j false) i=λj=>(listed.setIfInBounds i true).getD j false:=by funext j;rw[DD (by omega)];rfl
    grind
   ·have:=s { w with drawn:=w.drawn+1} Z;have e:(λ_:Nat=>false)=λj=>(Array.replicate ops.toArray.size false).getD j false:=by funext j;rw[Bt]
    grind
end
end
section
variable [X:XTab] [G:GTab] [Yc:GCx]
inductive Sp
 |sc (s:SC)
 |ar (n:Nat) (s:SC)
 |xt (n:Nat)
 |own (t:TC) (e:TypeId) (one:Bool) (src:List Nat)
 |rep (t:TC) (one:Bool) (src:List Nat)
 |ownk (t:TC) (e:TypeId) (h:Nat)
 |mp (k v:TC)
 |pt (t:TC) (e:TypeId) (one:Bool) (src:List Nat)
 |al (d:Nat)
abbrev Sp.den:Sp->Type
 |.sc s=>s.den
 |.ar _ s=>List s.den
 |.xt n=>X.den n
 |.own t _ _ _=>List t.den
 |.rep t _ _=>List t.den
 |.ownk t _ _=>List t.den
 |.mp k v=>List (k.den×v.den)
 |.pt t _ _ _=>List t.den×Int
 |.al _=>Unit
abbrev zE:List Sp->Type
 |[]=>Unit
 |[a]=>a.den
 |a::b::r=>a.den×zE (b::r)
inductive ShV
 |lf (l:Sp)
 |ag (ls:List Sp)
def ShV.ls:ShV->List Sp
 |.lf l=>[l]
 |.ag ls=>ls
structure Shp where
 keep:List Nat
 vs:List (Nat×ShV)
 bx:List (Nat×List Sp)
 dead:List Nat
def Shp.ls(sh:Shp):List Sp:=sh.vs.flatMap (λp=>p.2.ls)++sh.bx.flatMap (λp=>p.2)
def uw(E:SE):List (Nat×ShV)->Option (List Lf)
 |[]=>some []
 |(t,.lf _)::r=>match bP E t,uw E r with
  |some (.lf l),some ls=>some (l::ls)
  |_,_=>none
 |(t,.ag ps)::r=>match bP E t,uw E r with
  |some (.ag l),some ls=>bif Nat.beq l.length ps.length then some (l++ls)else none
  |_,_=>none
def DU(E:SE)(t:Nat):Option AV:=bif Nat.ble 8000000 t then some (.lf (.bp (t-8000000) 0))else bP E t
def Fx(E:SE)(F:List AF):List (Nat×List Sp)->Option (List Lf)
 |[]=>some []
 | (t,ps)::r=>match DU E t with
  |some (.lf (.bp b 0))=>match i6 b F,Fx E F r with
   |some (_,cs),some ls=>bif Nat.beq cs.length ps.length then some (cs++ls)else none
   |_,_=>none
  |some (.lf (.sl h))=>match mY h F,Fx E F r with
   |some (a,_,_,_),some ls=>bif Nat.beq 1 ps.length then some (.sl a::ls)else none
   |_,_=>none
  |_=>none
def Sp.abs(F:List AF):(p:Sp)->Lf->Option p.den
 |.sc s,.c a x=>if h:a=s then some (FP h x)else none
 |.ar n s,.ar b a x=>if h:a=s/\b=n then some (wR h.1 x)else none
 |.xt n,.xt m x=>if h:m=n then some (ang h x)else none
 |.own t e _ _,l=>match fY t e 0 F l with|some (_,_,xs)=>some xs|none=>none
 |.rep t _ _,l=>match iB t F l with|some s=>some s.xs|none=>none
 |.ownk t e h,.sl h'=>bif Nat.beq h h'&&Nat.blt h 64 then(match fY t e 0 F (.sl h')with|some (_,_,xs)=>some xs|none=>none)else none
 |.mp k v,.mp h=>match xd k v h F with|some s=>some s.xs|none=>none
 |.pt t e _ _,.sl h=>match Dh t h F with|some s=>bif Nat.beq e s.e then some (s.xs,s.m)else none|none=>none
 |.al _,.sl _=>some ()
 |_,_=>none
def mS(F:List AF):(ps:List Sp)->List Lf->Option (zE ps)
 |[],[]=>some ()
 |[p],[l]=>p.abs F l
 |p::q::r,l::ls=>match p.abs F l,mS F (q::r) ls with
  |some x,some y=>some (x,y)
  |_,_=>none
 |_,_=>none
def Sp.leaf(p:Sp)(x:p.den)(nm:Nat):Lf:=match p,x with
 |.sc s,x=>.c s x
 |.ar n s,x=>.ar n s x
 |.xt n,x=>.xt n x
 |.own _ _ _ _,_=>.sl nm
 |.rep _ _ _,_=>.sl nm
 |.ownk _ _ h,_=>.sl h
 |.mp _ _,_=>.mp nm
 |.pt _ _ _ _,_=>.sl nm
 |.al d,_=>.sl (nm+d)
def rD:(ps:List Sp)->zE ps->Nat->List Lf
 |[],_,_=>[]
 |[p],x,nm=>[p.leaf x nm]
 |p::q::r,x,nm=>p.leaf x.1 nm::rD (q::r) x.2 (nm+1)
def ye(a:Nat->List Nat)(one:Bool)(src:List Nat)(b:Nat):List Nat:=(bif one then [1]else [])++src.flatMap a++a 4000000
def Sp.fact(b:Nat->List Nat)(p:Sp)(x:p.den)(nm a:Nat):List AF:=match p,x with
 |.own t e one src,xs=>[.own t e a (bif t.ty.pureB||fk e then []else ye b one src a) xs nm]
 |.rep t one src,xs=>[.rep t (ye b one src a) xs nm]
 |.ownk t e h,xs=>[.own t e a [] xs h]
 |.mp k v,xs=>[.mp k v a xs nm]
 |.pt t e one src,x=>[.pt t e a (ye b one src a) x.1 nm x.2,.rep t (a::ye b one src a) x.1 nm]
 |_,_=>[]
def F4(b:Nat->List Nat):(ps:List Sp)->zE ps->Nat->Nat->List AF
 |[],_,_,_=>[]
 |[p],x,nm,a=>p.fact b x nm a
 |p::q::r,x,nm,a=>p.fact b x.1 nm a++F4 b (q::r) x.2 (nm+1) (a+2)
def wE:List (Nat×ShV)->List Lf->SE
 |[],_=>[]
 |(t,.lf _)::r,l::ls=>(t,.lf l)::wE r ls
 |(t,.ag ps)::r,ls=>(t,.ag (ls.take ps.length))::wE r (ls.drop ps.length)
 |_,[]=>[]
def zy(E:SE):List (Nat×List Sp)->List Lf->Nat->List AF
 |[],_,_=>[]
 |(t,ps)::r,ls,a=>match DU E t with
  |some (.lf (.bp b 0))=>.box a b (ls.take ps.length)::zy E r (ls.drop ps.length) (a+1)
  |some (.lf (.sl _))=>zy E r (ls.drop ps.length) (a+1)
  |_=>[]
def Gv(F:List AF)(l:Lf):List Nat:=match l with
 |.sl h=>F.flatMap λf=>match f with
  |.own _ _ i K _ h'=>bif Nat.beq h h' then i::K else []
  |.rep _ K _ h'=>bif Nat.beq h h' then K else []
  |.box _ _ _=>[]
  |.isn _ _=>[]
  |.ag _=>[]
  |.prt _ _ _ _ _=>[]
  |.pbx _ _ _ _ _=>[]
  |.hol _ _ i _ h' _ _=>bif Nat.beq h h' then [i]else []
  |.mp _ _ _ _ _=>[]
  |.pt _ _ i K _ h' _=>bif Nat.beq h h' then i::K else []
 |.mp h=>F.flatMap λf=>match f with
  |.mp _ _ i _ h'=>bif Nat.beq h h' then [i]else []
  |_=>[]
 |.bp b _=>F.flatMap λf=>match f with
  |.box i a _=>bif Nat.beq b a then [i]else []
  |_=>[]
 |_=>[]
def at8(F:List AF):AV->List Nat
 |.lf l=>Gv F l
 |.ag ls=>ls.flatMap (Gv F)
 |.tu _=>[]
def adW(E:SE)(F:List AF)(t:Nat):List Nat:=match bP E t with
 |some v=>at8 F v
 |none=>[]
def atm(E:SE)(F:List AF)(t:Nat):List Nat:=match bP E t with
 |some (.lf (.bp b _))=>F.flatMap λf=>match f with
  |.box _ a cs=>bif Nat.beq b a then cs.flatMap (Gv F)else []
  |_=>[]
 |_=>[]
def aik(E:SE)(F:List AF)(a t:Nat):List Nat:=bif Nat.beq t 4000000 then [a]else bif Nat.ble 1000000 t then atm E F (t-1000000)else adW E F t
def uA(sh:Shp)(KE:SE)(KF:List AF)(nb a:Nat)(d:zE sh.ls):SS:=
 let ls:=rD sh.ls d nb
 ⟨wE sh.vs ls,F4 (aik KE KF (a+255)) sh.ls d nb a++zy KE sh.bx (ls.drop (sh.vs.flatMap (λp=>p.2.ls)).length) (a+2*sh.ls.length),nb+64,a+256,[]⟩
def rT(F:List AF):List Sp->List Lf->Nat->List (Nat×Nat)
 |.own t e _ _::ps,l::ls,a=>match fY t e 0 F l with
  |some (i,_,_)=>(i,a)::rT F ps ls (a+2)
  |none=>rT F ps ls (a+2)
 |.ownk t e _::ps,l::ls,a=>match fY t e 0 F l with
  |some (i,_,_)=>(i,a)::rT F ps ls (a+2)
  |none=>rT F ps ls (a+2)
 |.mp k v::ps,.mp h::ls,a=>match xd k v h F with
  |some s=>(s.i,a)::rT F ps ls (a+2)
  |none=>rT F ps ls (a+2)
 |.pt t _ _ _::ps,.sl h::ls,a=>match Dh t h F with
  |some s=>(s.i,a)::rT F ps ls (a+2)
  |none=>rT F ps ls (a+2)
 |_::ps,_::ls,a=>rT F ps ls (a+2)
 |_,_,_=>[]
def M8(E:SE)(F:List AF):List (Nat×List Sp)->Nat->List (Nat×Nat)
 |[],_=>[]
 | (t,_)::r,a=>match DU E t with
  |some (.lf (.bp b 0))=>match i6 b F with
   |some (i,_)=>(i,a)::M8 E F r (a+1)
   |none=>[]
  |some (.lf (.sl _))=>M8 E F r (a+1)
  |_=>[]
def DJ(F:List AF)(a:Nat):List Sp->List Lf->List (Nat×Nat)
 |.own t e _ _::ps,l::ls=>(match fY t e 0 F l with
  |some (_,K,_)=>K.map λk=>(k,a)
  |none=>[])++DJ F a ps ls
 |.rep t _ _::ps,l::ls=>(match iB t F l with
  |some s=>s.all.map λk=>(k,a)
  |none=>[])++DJ F a ps ls
 |.pt t _ _ _::ps,.sl h::ls=>(match Dh t h F with
  |some s=>s.K.map λk=>(k,a)
  |none=>[])++DJ F a ps ls
 |_::ps,_::ls=>DJ F a ps ls
 |_,_=>[]
def sub(a b:List Nat):Bool:=a.all λk=>b.any λj=>Nat.beq k j
def Ey(b:Nat->List Nat)(g:Nat->Nat)(F:List AF)(a:Nat):Sp->Lf->Bool
 |.own t e one src,.sl h=>match fY t e 0 F (.sl h)with
  |some (i,K,_)=>Nat.beq (g i) a&&(t.ty.pureB||fk e||sub (K.map g) (ye b one src a))
  |none=>false
 |.rep t one src,.sl h=>match iB t F (.sl h)with
  |some s=>sub (s.all.map g) (ye b one src a)
  |none=>false
 |.ownk t e _,.sl h=>match fY t e 0 F (.sl h)with
  |some (i,_,_)=>Nat.beq (g i) a&&(t.ty.pureB||fk e)
  |none=>false
 |.mp k v,.mp h=>match xd k v h F with
  |some s=>Nat.beq (g s.i) a
  |none=>false
 |.pt t _ one src,.sl h=>match Dh t h F with
  |some s=>Nat.beq (g s.i) a&&sub (s.K.map g) (ye b one src a)
  |none=>false
 |_,_=>true
def Iq(a:Nat->List Nat)(g:Nat->Nat)(F:List AF):Nat->List Sp->List Lf->Bool
 |b,p::ps,l::ls=>Ey a g F b p l&&Iq a g F (b+2) ps ls
 |_,_,_=>true
def EO(g:Nat->Nat)(E:SE)(F:List AF):List (Nat×List Sp)->Nat->Bool
 |[],_=>true
 | (t,_)::r,a=>match DU E t with
  |some (.lf (.bp b 0))=>match i6 b F with
   |some (i,_)=>Nat.beq (g i) a&&EO g E F r (a+1)
   |none=>false
  |some (.lf (.sl _))=>EO g E F r (a+1)
  |_=>false
def alB(p:Sp)(l:Lf)(ls:List Lf):Bool:=match p,l with
 |.al d,.sl h=>(match(l::ls)[d]? with|some (.sl h')=>Nat.beq h h'|_=>false)
 |_,_=>true
def VA:List Sp->List Lf->Bool
 |p::ps,l::ls=>alB p l ls&&VA ps ls
 |_,_=>true
def D5(B:Nat)(sh:Shp)(KE:SE)(KF:List AF)(nb a:Nat)(S:SS):Option (zE sh.ls):=match uw S.E sh.vs,Fx KE (S.F++KF) sh.bx with
 | some b,some c=>match mS (S.F++KF) sh.ls (b++c)with
  |some d=>
   let h:=KF.flatMap AF.uses
   let e:=h.map (λk=>(k,k))++rT (S.F++KF) sh.ls (b++c) a++M8 KE (S.F++KF) sh.bx (a+2*sh.ls.length)++DJ (S.F++KF) (a+255) sh.ls (b++c)
   let e:=e.filter λp=>Nat.ble 2 p.1&&Nat.ble 2 p.2
   let g:=ry e 2
   bif KF.all (λf=>!(gF S.d f))&&h.all (λk=>Nat.beq (g k) k)&&Iq (aik KE KF (a+255)) g (S.F++KF) a sh.ls (b++c)&&EO g KE (S.F++KF) sh.bx (a+2*sh.ls.length)&&KE.all (λp=>p.2.free nb)&&KF.all (AF.free nb)&&Nat.ble sh.ls.length 64&&KE.all (λp=>(bP S.E p.1).isNone)&&Nat.ble 64 nb&&Nat.ble B nb&&VA sh.ls (b++c)then some d else none
  |none=>none
 |_,_=>none
theorem I7{F:List AF}{η η':Vn}{p:Sp}{l:Lf}{x:p.den}{nm:Nat}(j:∀m,m<64->η'.h m=η.h m)(h:p.abs F l=some x)(c:η'.h nm=l.hd η)(a:∀d,p=.al d->η'.h (nm+d)=l.hd η):(p.leaf x nm).cells η'=l.cells η/\(p.leaf x nm).val η'=l.val η:=by
 cases p with
 |sc s=>
  cases l<;>simp only[Sp.abs]at h<;>try cases h
  split at h
  ·rename_i b;subst b;simp only[no]at h;subst h;exact⟨rfl,rfl⟩
  ·cases h
 |ar n s=>
  cases l<;>simp only[Sp.abs]at h<;>try cases h
  split at h
  ·rename_i b;obtain⟨rfl,rfl⟩:=b;simp only[no]at h;subst h;exact⟨rfl,rfl⟩
  ·cases h
 |xt n=>
  cases l<;>simp only[Sp.abs]at h<;>try cases h
  split at h
  ·rename_i b;subst b;simp only[no]at h;subst h;exact⟨rfl,rfl⟩
  ·cases h
 | own t e one src=>
  simp only[Sp.abs]at h;split at h
  ·rename_i i K xs q;refine⟨?_,?_⟩
   ·simp only[Sp.leaf,Lf.cells,c];cases l<;>simp[fY]at q<;>rfl
   grind[Sp.leaf,Lf.val,pM]
  ·cases h
 |rep t one src=>
  grind[Sp.abs,Sp.leaf,Lf.cells,Lf.val,qh]
 | ownk t e f=>
  cases l with
  |sl h' =>
   simp only[Sp.abs]at h;cases g:(Nat.beq f h'&&Nat.blt f 64)
   ·grind
   ·simp only[abF]at g;have r:=f9 g.1;have u:f+1<=64:=abM g.2;grind[Sp.leaf,Lf.cells,Lf.val]
  |_=>cases h
 |mp k v=>
  cases l with
  |mp h'=>exact⟨by simp only[Sp.leaf,Lf.cells,c];rfl,by simp only[Sp.leaf,Lf.val,c];rfl⟩
  |_=>cases h
 |pt t e one src=>
  cases l with
  |sl h'=>exact⟨by simp only[Sp.leaf,Lf.cells,c];rfl,by simp only[Sp.leaf,Lf.val,c];rfl⟩
  |_=>cases h
 |al d=>
  cases l with
  |sl h'=>exact⟨by simp only[Sp.leaf,Lf.cells,a d rfl];rfl,by simp only[Sp.leaf,Lf.val,a d rfl];rfl⟩
  |_=>cases h
theorem acv{F:List AF}{η η':Vn}{p:Sp}{l:Lf}{ls:List Lf}{x:p.den}{nm:Nat}(h:p.abs F l=some x)(ha:alB p l ls=true)(c:∀(j:Nat) (a:Lf),(l::ls)[j]?=some a->η'.h (nm+j)=a.hd η)(d:Nat)(b:p=.al d):η'.h (nm+d)=l.hd η:=by
 subst b;cases l with
 |sl h' =>
  simp only[alB]at ha;split at ha
  ·simp_all
  ·cases ha
 |_=>cases h
theorem Ft{F:List AF}{η η':Vn}(a:∀m,m<64->η'.h m=η.h m):∀{ps:List Sp} {ls:List Lf} {d:zE ps} {nm:Nat},mS F ps ls=some d->VA ps ls=true->(∀(j:Nat) (l:Lf),ls[j]?=some l->η'.h (nm+j)=l.hd η) ->
  (rD ps d nm).length=ls.length/\∀(j:Nat) (l b:Lf),ls[j]?=some l->(rD ps d nm)[j]?=some b->b.cells η'=l.cells η/\b.val η'=l.val η
 |[],[],d,nm,h,_,c=>⟨rfl,λj l b h=>by simp at h⟩
 | [p],[l],d,nm,h,ha,c=>⟨rfl,λj v b e f=>by
  cases j with
  |zero=>
   simp only[rD,agE,no]at e f;subst e f;simp only[VA,abF]at ha;exact I7 a h (c 0 _ rfl) (acv h ha.1 c)
  |succ j=>simp at e⟩
 | p::q::r,l::ls,d,nm,h,ha,c=>by
  rw[VA,abF]at ha;simp only[mS]at h;split at h
  ·rename_i x y g s;simp only[no]at h;subst h;obtain⟨u,z⟩:=Ft (η:=η) (η':=η') a (nm:=nm+1) s ha.2 λj b k=>by
    have:=c (j+1) b (by simpa using k);grind
   refine⟨by simp only[rD,aeH,u],λj v b e f=>?_⟩;cases j with
   |zero=>
    simp only[rD,agE,no]at e f;subst e f;exact I7 a g (c 0 _ rfl) (acv g ha.1 c)
   |succ j=>
    grind[rD]
  ·cases h
 |[],_::_,_,_,h,_,_=>by simp[mS]at h
 |[_],[],_,_,h,_,_=>by simp[mS]at h
 |[_],_::_::_,_,_,h,_,_=>by simp[mS]at h
 |_::_::_,[],_,_,h,_,_=>by simp[mS]at h
theorem A5{d η':Vn}:∀{as bs:List Lf},as.length=bs.length->(∀(j:Nat) (l c:Lf),bs[j]?=some l->as[j]?=some c->c.cells η'=l.cells d)->aw η' as=aw d bs
 |[],[],_,_=>rfl
 |a::as,b::bs,hl,h=>by simp only[aw];rw[h 0 b a rfl rfl,A5 (by simpa using hl) λj l c e f=>h (j+1) l c (by simpa using e) (by simpa using f)]
 |[],_::_,hl,_=>by simp at hl
 |_::_,[],hl,_=>by simp at hl
theorem Fk{E:SE}{η η':Vn}:∀{vs:List (Nat×ShV)} {ls as rest:List Lf},uw E vs=some ls->as.length=(ls++rest).length->(∀(j:Nat) (l c:Lf),(ls++rest)[j]?=some l->as[j]?=some c->c.cells η'=l.cells η/\c.val η'=l.val η) ->
  ∀t v,bP (wE vs as) t=some v->∃v0,bP E t=some v0/\v.val η'=v0.val η
 |[],ls,as,rest,_,_,_,t,v,h=>by simp[wE,bP]at h
 | (t0,.lf p)::r,ls,as,rest,b,hl,f,t,v,h=>by
  simp only[uw]at b;split at b
  ·rename_i l m q k;simp only[no]at b;subst b;cases as with
   |nil=>simp at hl
   |cons a as=>
    simp only[wE,bP]at h;cases d:Nat.beq t t0
    ·rw[d]at h;exact Fk k (by simpa using hl) (λj l c u g=>f (j+1) l c (by simpa using u) (by simpa using g)) t v h
    ·rw[d]at h;simp only[abv,no]at h;subst h;obtain rfl:=f9 d;exact⟨_,q,(f 0 l a rfl rfl).2⟩
  ·cases b
 | (t0,.ag ps)::r,ls,as,rest,b,hl,f,t,v,h=>by
  simp only[uw]at b;split at b
  ·rename_i l m q k;cases e:Nat.beq l.length ps.length
   ·grind
   ·rw[e]at b;simp only[abv,no]at b;subst b;have s:=f9 e;simp only[acA]at hl;simp only[wE,bP]at h;cases d:Nat.beq t t0
    ·rw[d]at h;refine Fk (rest:=rest) k (by simp;omega) (λj x c u g=>?_) t v h;rw[afS]at g;exact f (ps.length+j) x c (by grind) g
    grind[AV.val,Option.some.injEq,Nat.eq_of_beq_eq_true,A5]
  ·cases b
end
end Go.Sm
