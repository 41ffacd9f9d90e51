/- Laws for the row. No condition. -/
import Derived.Test.YtfhhiajfciblbaaGreatDoorRfU
import Derived.Scope
namespace Go.Sm
set_option linter.unusedSectionVars false
variable {w:World} {f:FuncId} {fn:Func} {a:Act}
section
variable [X:XTab] [G:GTab]
class Itr where
 it : {S R:Type}→(S→Option (S⊕R))→S→Option R
 ok : ∀ {S R:Type} (f:S→Option (S⊕R)) (s:S) (r:R),it f s=some r→∃ n,un f n s=some r
def Sj:Nat:=9223372036854775808
@[reducible] def itF:Itr:=⟨fun f s=>un f Sj s,fun _ _ _ h=>⟨Sj,h⟩⟩
inductive An
 | z
 | s (a b:An)
 | u (a:An)
 | j (sh:Shp) (ne:Bool) (a b:An)
 | l (sh:Shp) (a:An)
 | g (gs:List Gh)
 | gg (gs ps:List Gh)
 | k (ws:List Nat) (gs ps:List Gh)
def An.gh:An→List Gh
 | .g gs=>gs
 | .gg gs _=>gs
 | .k _ gs _=>gs
 | _=>[]
def An.pg:An→List Gh
 | .gg _ ps=>ps
 | .k _ _ ps=>ps
 | _=>[]
def kdS (E:SE) (F:List AF) (t:Nat):List Nat:=bif Nat.beq t 2000000 then (F.flatMap fun f=>match f with
  | .own _ _ i _ _ _=>[i]
  | .hol _ _ i _ _ _ _=>[i]
  | .pt _ _ i _ _ _ _=>[i]
  | _=>[]) else bif Nat.ble 1000000 t then (match bg E (t - 1000000) with
  | some (.lf (.bp b _))=>let hs:=F.flatMap fun f=>match f with
    | .box _ b' cs=>bif Nat.beq b b' then cs.flatMap Lf.hs else []
    | _=>[]
   F.flatMap fun f=>match f with
    | .own _ _ i _ _ h=>bif cf h hs then [i] else []
    | .mp _ _ i _ h=>bif cf h hs then [i] else []
    | _=>[]
  | _=>[]) else match bg E t with
 | some (.lf (.bp b _))=>F.flatMap fun f=>match f with
  | .box i b' _=>bif Nat.beq b b' then [i] else []
  | _=>[]
 | some (.lf (.rp h _ _ _ _))=>F.flatMap fun f=>match f with
  | .own _ _ i _ _ h' => bif Nat.beq h h' then [i] else []
  | .hol _ _ i _ h' _ _=>bif Nat.beq h h' then [i] else []
  | .pt _ _ i _ _ h' _=>bif Nat.beq h h' then [i] else []
  | _=>[]
 | some (.lf (.sl h))=>F.flatMap fun f=>match f with
  | .own _ _ i _ _ h' => bif Nat.beq h h' then [i] else []
  | .hol _ _ i _ h' _ _=>bif Nat.beq h h' then [i] else []
  | .pt _ _ i _ _ h' _=>bif Nat.beq h h' then [i] else []
  | _=>[]
 | _=>[]
def An.fo:An→List Nat
 | .k ws _ _=>(ws.filter fun t=>Nat.ble 3000000 t).map fun t=>t - 3000000
 | _=>[]
def An.kd (an:An) (E:SE) (F:List AF):Option (List Nat):=match an with
 | .k ws _ _=>some ((ws.filter fun t=>Nat.blt t 3000000).flatMap (kdS E F))
 | _=>none
def An.fst:An→An
 | .s a _=>a
 | .u a=>a
 | _=>.z
def An.snd:An→An
 | .s _ b=>b
 | _=>.z
structure Kn (R:Type) where
 n:SS→Option R
 r:SS→Option R
 x:Nat→SS→Option R
def A9 (E:SE):List Nat→SE
 | []=>[]
 | t::r=>match bg E t with
  | some v=>(t,v)::A9 E r
  | none=>A9 E r
def zN (F:List AF) (l:Lf):List Nat:=match l with
 | .sl h=>F.flatMap fun f=>match f with
  | .own _ _ i _ _ h' => bif Nat.beq h h' then [i] else []
  | .hol _ _ i _ h' _ _=>bif Nat.beq h h' then [i] else []
  | .pt _ _ i _ _ h' _=>bif Nat.beq h h' then [i] else []
  | _=>[]
 | .mp h=>F.flatMap fun f=>match f with
  | .mp _ _ i _ h' => bif Nat.beq h h' then [i] else []
  | _=>[]
 | _=>[]
def akl (F:List AF):AV→List Nat
 | .lf l=>zN F l
 | .ag ls=>ls.flatMap (zN F)
 | .tu _=>[]
def aeA (E:SE) (F:List AF) (t:Nat):List Nat:=match bg E t with
 | some v=>akl F v
 | none=>[]
def ah4 (E:SE) (F KF:List AF) (t:Nat):List Nat:=match bg E t with
 | some (.lf (.bp b 0))=>match kZ b F with
  | some (i,cs)=>i::cs.flatMap (zN F)
  | none=>[]
 | some (.lf (.sl h))=>match ot h (F++KF) with
  | some (h0,_,_,_)=>zN F (.sl h0)
  | none=>[]
 | _=>[]
def ajo (sh:Shp) (KE:SE) (KF:List AF) (S:SS):List Nat:=(sh.vs.map (·.1)++sh.dead).flatMap (aeA S.E S.F)++(sh.bx.map (·.1)).flatMap (ah4 (S.E++KE) S.F KF)
def tL (sh:Shp) (S:SS):SE:=A9 S.E sh.keep
def AV.hs:AV→List Nat
 | .lf l=>l.hs
 | .ag ls=>ls.flatMap Lf.hs
 | .tu _=>[]
def ahu (E:SE) (t:Nat):List Nat:=match bg E t with
 | some v=>v.hs
 | none=>[]
def akh (E:SE) (F:List AF) (t:Nat):List Nat:=match bg E t with
 | some (.lf (.bp b 0))=>match kZ b F with
  | some (_,cs)=>cs.flatMap Lf.hs
  | none=>[]
 | _=>[]
def aiB (sh:Shp) (KE:SE) (S:SS) (cs:List Nat):List Nat:=
 let bw:=(tL sh S).flatMap (fun p=>p.2.hs)++S.F.flatMap fun f=>match f with
  | .box i _ ls=>bif cf i cs then [] else ls.flatMap Lf.hs
  | _=>[]
 ((sh.vs.map (·.1)++sh.dead).flatMap (ahu S.E)++(sh.bx.map (·.1)).flatMap (akh (S.E++KE) S.F)).filter fun h=>!(cf h bw)
def isH (m:List Nat) (f:AF):Bool:=match f with
 | .rep _ _ _ h=>cf h m
 | .own _ _ _ _ _ h=>cf h m
 | .isn h _=>cf h m
 | .box _ _ _=>false
 | .prt _ _ _ _ _=>false
 | .hol _ _ _ _ h _ _=>cf h m
 | .mp _ _ _ _ h=>cf h m
 | .pt _ _ _ _ _ h _=>cf h m
def UO (cs m:List Nat) (f:AF):Bool:=ky cs f||isH m f
def AF.hsIn:AF→List Nat
 | .box _ _ cs=>cs.flatMap Lf.hs
 | .hol _ _ _ _ _ _ cs=>cs.flatMap Lf.hs
 | .prt a b _ _ _=>[a,b]
 | _=>[]
def AV.bs:AV→List Nat
 | .lf l=>l.bs
 | .ag ls=>ls.flatMap Lf.bs
 | .tu _=>[]
def AF.bsIn:AF→List Nat
 | .box _ _ cs=>cs.flatMap Lf.bs
 | .hol _ _ _ _ _ _ cs=>cs.flatMap Lf.bs
 | _=>[]
def ah0 (B:Nat) (outb bw:List Nat) (f:AF):Bool:=match f with
 | .rep _ _ _ h=>Nat.blt h B||cf h bw
 | .own _ _ _ _ _ h=>Nat.blt h B||cf h bw
 | .box _ b _=>Nat.blt b B||cf b outb
 | _=>true
def Aj (B:Nat) (sh:Shp) (KE:SE) (KF:List AF) (S:SS):List AF:=
 let cs:=ajo sh KE KF S; let m:=aiB sh KE S cs
 let outb:=(tL sh S++KE).flatMap (fun p=>p.2.bs)++(S.F++KF).flatMap AF.bsIn
 let F1:=S.F.filter (ah0 B outb (S.F.flatMap fun f=>match f with | .rep _ _ _ h=>[h] | .own _ _ _ _ _ h=>[h] | _=>[]))
 let bw:=(tL sh S++KE).flatMap (fun p=>p.2.hs)++(F1++KF).flatMap AF.hsIn
 F1.filter fun f=>!(UO cs m f)&&ah0 B outb bw f
def Ui (sh:Shp) (KE:SE) (KF:List AF) (S:SS):SS:=let cs:=ajo sh KE KF S; let m:=aiB sh KE S cs; ⟨A9 S.E (sh.vs.map (·.1)++sh.dead),S.F.filter (UO cs m),S.nn+64,S.nc+256,[]⟩
def push (dd:List Nat) (kE:SE) (kF:List AF) (S:SS):SS:=⟨S.E++kE,S.F++live S.d kF,S.nn,S.nc,S.d++dd⟩
def DD (KE:SE) (S:SS):Bool:=KE.all fun p=>(bg S.E p.1).isNone
def pA [Itr] (C:Cx) (nt:Nat):Code→(R:Type)→An→SE→List AF→SS→Kn R→Option R
 | .skip,_,_,_,_,S,K=>K.n S
 | .region _ ops draw,_,an,KE,KF,S,K=>zJ C.B KE KF an.gh S fun S' => C4 (C.dk (an.kd (S'.E++KE) (S'.F++live S'.d KF)) an.fo) nt draw ops.toList KE KF S' fun S'' => zJ C.B KE KF an.pg S'' K.n
 | .seq a b,R,an,KE,KF,S,K=>match an with
  | .j sh ne aa ab=>
   let kE:=tL sh S
   let kF:=Aj C.B sh KE KF S
   bif DD KE S then bif ne then
    (pA C nt a (wM sh.ls) aa (kE++KE) (kF++live S.d KF) (Ui sh KE KF S) ⟨Ar C.B sh (kE++KE) (kF++live S.d KF) S.nn S.nc,fun _=>none,fun _ _=>none⟩).bind fun d=>
     pA C nt b R ab KE KF (push S.d kE kF (sj sh (kE++KE) (kF++live S.d KF) S.nn S.nc d)) K
   else
    (pA C nt a (wM sh.ls⊕R) aa (kE++KE) (kF++live S.d KF) (Ui sh KE KF S) ⟨fun S' => (Ar C.B sh (kE++KE) (kF++live S.d KF) S.nn S.nc S').map .inl,fun S' => (K.r (push S.d kE kF S')).map .inr,fun i S' => (K.x i (push S.d kE kF S')).map .inr⟩).bind fun z=>
     match z with
     | .inl d=>pA C nt b R ab KE KF (push S.d kE kF (sj sh (kE++KE) (kF++live S.d KF) S.nn S.nc d)) K
     | .inr r=>some r
   else none
  | an=>pA C nt a R an.fst KE KF S ⟨fun S' => pA C nt b R an.snd KE KF S' K,K.r,K.x⟩
 | .cond c a b,R,an,KE,KF,S,K=>match ev (S.E++KE) c with
  | some (.lf (.c .bool x))=>bif x then pA C nt a R an.fst KE KF S K else pA C nt b R an.snd KE KF S K
  | _=>none
 | .block id a,R,an,KE,KF,S,K=>pA C nt a R an.fst KE KF S ⟨K.n,K.r,fun i S' => bif Nat.beq i id then K.n S' else K.x i S'⟩
 | .loop a,R,an,KE,KF,S,K=>match an with
  | .l sh aa=>
   let kE:=tL sh S
   let kF:=Aj C.B sh KE KF S
   bif DD KE S then
    (Ar C.B sh (kE++KE) (kF++live S.d KF) S.nn S.nc (Ui sh KE KF S)).bind fun d0=>
    Itr.it (fun d=>pA C nt a (wM sh.ls⊕R) aa (kE++KE) (kF++live S.d KF) (sj sh (kE++KE) (kF++live S.d KF) S.nn S.nc d)
     ⟨fun S' => (Ar C.B sh (kE++KE) (kF++live S.d KF) S.nn S.nc S').map .inl,fun S' => (K.r (push S.d kE kF S')).map .inr,fun i S' => (K.x i (push S.d kE kF S')).map .inr⟩) d0
   else none
  | _=>none
 | .exit id,_,an,KE,KF,S,K=>zJ C.B KE KF an.gh S (K.x id)
 | .ret,_,an,KE,KF,S,K=>zJ C.B KE KF an.gh S K.r
 | .label _,_,_,_,_,S,K=>K.n S
 | .scope a,R,an,KE,KF,S,K=>pA C nt a R an.fst KE KF S K
 | _,_,_,_,_,_,_=>none
section
variable {P:Program} {nt:Nat} {L0:List HA} {β:Vn} {C:Cx}
theorem jH.push {KE kE:SE} {KF kF:List AF} {dd:List Nat} {S:SS} (h:jH C.B nt L0 β (kE++KE) (kF++live dd KF) S a w):jH C.B nt L0 β KE KF (Go.Sm.push dd kE kF S) a w:=by
 obtain ⟨η,c,ρ,ha,hE,hF,hL⟩:=h
 exact ⟨η,c,ρ,ha,by simpa [Go.Sm.push,Yi] using hE,by simpa [Go.Sm.push,Yi,MH,Wa] using hF,hL⟩
theorem vF {E:SE} {t:Nat} {v:AV} : ∀ {ts:List Nat},bg (A9 E ts) t=some v→bg E t=some v
 | [],h=>by simp [A9,bg] at h
 | s::r,h=>by
  simp only [A9] at h
  split at h
  ·rename_i u hu
   simp only [bg] at h
   cases hb:Nat.beq t s
   ·rw [hb] at h; exact vF h
   simp_all
  ·exact vF h
theorem E3 {E E' : SE} {t:Nat} {v:AV} (h:bg E t=some v):bg (E++E') t=some v:=by
 induction E with
 | nil=>simp [bg] at h
 | cons p r ih=>
  simp only [Zr,bg] at h ⊢
  grind
theorem Ve {KE:SE} {S:SS} (h:DD KE S=true) {t:Nat} {v:AV} (hl:bg KE t=some v):bg (S.E++KE) t=some v:=by
 have:=W3.1 h _ (ql hl)
 rw [Cy (by simp_all)]
 exact hl
theorem jH.split {sh:Shp} {KE:SE} {KF:List AF} {S:SS} (hd:DD KE S=true) (h:jH C.B nt L0 β KE KF S a w):jH C.B nt L0 β (tL sh S++KE) (Aj C.B sh KE KF S++live S.d KF) (Ui sh KE KF S) a w:=by
 obtain ⟨η,c,ρ,ha,hE,hF,hL⟩:=h
 refine ⟨η,c,ρ,ha,fun t v hl=>?_,fun A hA=>?_,hL⟩
 ·rcases pQ hl with hl | hl
  ·exact hE t v (E3 (vF hl))
  ·rcases pQ hl with hl | hl
   ·exact hE t v (E3 (vF hl))
   ·exact hE t v (Ve hd hl)
 ·rw [show (Ui sh KE KF S).d=[] from rfl,B0] at hA
  obtain ⟨f,hf,rfl⟩:=W6.1 hA
  refine hF _ (W6.2 ⟨f,?_,rfl⟩)
  rcases Xd.1 hf with hf | hf
  ·exact XP _ (ZP.1 hf).1
  ·rcases Xd.1 hf with hf | hf
   ·exact XP _ (ZP.1 (ZP.1 hf).1).1
   grind
def Kn.ap {R:Type} (K:Kn R):Exit→SS→Option R
 | .normal,S=>K.n S
 | .ret,S=>K.r S
 | .exit i,S=>K.x i S
 | _,_=>none
theorem kR [Itr] (hC:C.ok P) (hm:P.follows .mixedOrders=true) : ∀ (cd:Code) {R:Type} {an:An} {KE:SE} {KF:List AF} {S:SS} {K:Kn R} {r:R},pA C nt cd R an KE KF S K=some r →
  ∃ e S',K.ap e S' = some r∧∀ {L0:List HA} {β:Vn},L0ok L0→∀ {Q:Exit→Act→World→Prop} {a:Act} {w:World},jH C.B nt L0 β KE KF S a w→(∀ a w,jH C.B nt L0 β KE KF S' a w→Q e a w)→cd.wp P Q a w
 | .skip,R,an,KE,KF,S,K,r,h=>⟨.normal,S,h,fun hL0 _ _ _ hI hQ=>wp_skip (hQ _ _ hI)⟩
 | .exit id,R,an,KE,KF,S,K,r,h=>by
  obtain ⟨S',h1,h2⟩:=zM (nt:=nt) (show zJ C.B KE KF an.gh S (K.x id)=some r from h)
  exact ⟨.exit id,S',h1,fun hL0 _ _ _ hI hQ=>wp_exit (hQ _ _ (h2 hL0 _ _ hI))⟩
 | .ret,R,an,KE,KF,S,K,r,h=>by
  obtain ⟨S',h1,h2⟩:=zM (nt:=nt) (show zJ C.B KE KF an.gh S K.r=some r from h)
  exact ⟨.ret,S',h1,fun hL0 _ _ _ hI hQ=>wp_ret (hQ _ _ (h2 hL0 _ _ hI))⟩
 | .region id ops draw,R,an,KE,KF,S,K,r,h=>by
  obtain ⟨S0,h0,h00⟩:=zM (nt:=nt) (show zJ C.B KE KF an.gh S (fun S' => C4 (C.dk (an.kd (S'.E++KE) (S'.F++live S'.d KF)) an.fo) nt draw ops.toList KE KF S' fun S'' => zJ C.B KE KF an.pg S'' K.n)=some r from h)
  obtain ⟨S',h1',h2⟩:=VB (Cx.dk_ok hC _ _) hm h0
  obtain ⟨S'',h1,h3⟩:=zM (nt:=nt) h1'
  refine ⟨.normal,S'',h1,fun {L0 β} hL0 {Q a w} hI hQ=>?_⟩
  have:=h2 hL0 id Q a w (h00 hL0 a w hI) (fun a w hI' => hQ a w (h3 hL0 a w hI'))
  simp_all
 | .cond c x y,R,an,KE,KF,S,K,r,h=>by
  simp only [pA] at h
  split at h
  ·rename_i b hb
   cases b with
   | true=>
    obtain ⟨e,S',h1,h2⟩:=kR hC hm x h
    refine ⟨e,S',h1,fun {L0 β} hL0 {Q a w} hI hQ=>?_⟩
    have hI' := hI
    obtain ⟨η,cc,ρ,ha,hE,_,_⟩:=hI'
    exact wp_cond_split (t:=true) (by rw [ha.eval]; exact aN hE hb) (fun _=>h2 hL0 hI hQ) (fun hf=>by cases hf)
   | false=>
    obtain ⟨e,S',h1,h2⟩:=kR hC hm y h
    refine ⟨e,S',h1,fun {L0 β} hL0 {Q a w} hI hQ=>?_⟩
    have hI' := hI
    obtain ⟨η,cc,ρ,ha,hE,_,_⟩:=hI'
    exact wp_cond_split (t:=false) (by rw [ha.eval]; exact aN hE hb) (fun hf=>by cases hf) (fun _=>h2 hL0 hI hQ)
  ·cases h
 | .block id x,R,an,KE,KF,S,K,r,h=>by
  simp only [pA] at h
  obtain ⟨e,S',h1,h2⟩:=kR hC hm x h
  cases e with
  | normal=>exact ⟨.normal,S',h1,fun hL0 _ _ _ hI hQ=>wp_block (h2 hL0 hI fun a w hI' => hQ a w hI')⟩
  | ret=>exact ⟨.ret,S',h1,fun hL0 _ _ _ hI hQ=>wp_block (h2 hL0 hI fun a w hI' => hQ a w hI')⟩
  | exit i=>
   simp only [Kn.ap] at h1
   cases hb:Nat.beq i id
   ·rw [hb] at h1
    have hne:i≠id:=afs hb
    refine ⟨.exit i,S',h1,fun hL0 _ _ _ hI hQ=>wp_block (h2 hL0 hI fun a w hI' => ?_)⟩
    simp only [Exit.inBlock,if_neg hne]
    grind
   ·rw [hb] at h1
    obtain rfl:=Wo hb
    refine ⟨.normal,S',h1,fun hL0 _ _ _ hI hQ=>wp_block (h2 hL0 hI fun a w hI' => ?_)⟩
    simp only [Exit.inBlock,Xa]
    grind
  | goto l=>cases h1
  | panic ch=>cases h1
  | outgrown=>cases h1
 | .seq x y,R,an,KE,KF,S,K,r,h=>by
  simp only [pA] at h
  split at h
  ·rename_i sh ne aa ab
   cases hd:DD KE S
   ·grind
   ·rw [hd] at h
    simp only [f9] at h
    cases ne with
    | true=>
     simp only [f9] at h
     obtain ⟨d,h1,h2⟩:=bind_some h
     obtain ⟨e1,S1,g1,g2⟩:=kR hC hm x h1
     obtain ⟨e2,S2,g3,g4⟩:=kR hC hm y h2
     cases e1 with
     | normal=>exact ⟨e2,S2,g3,fun hL0 _ _ _ hI hQ=>wp_seq (g2 hL0 (hI.split (sh:=sh) hd) fun a w hI' => g4 hL0 (ua hL0 g1 hI').push hQ)⟩
     | ret=>cases g1
     | exit i=>cases g1
     | goto l=>cases g1
     | panic ch=>cases g1
     | outgrown=>cases g1
    | false=>
     simp only [no] at h
     obtain ⟨z,h1,h2⟩:=bind_some h
     obtain ⟨e1,S1,g1,g2⟩:=kR hC hm x h1
     cases e1 with
     | normal=>
      simp only [Kn.ap,YX] at g1
      obtain ⟨d,hms,rfl⟩:=g1
      obtain ⟨e2,S2,g3,g4⟩:=kR hC hm y h2
      exact ⟨e2,S2,g3,fun hL0 _ _ _ hI hQ=>wp_seq (g2 hL0 (hI.split (sh:=sh) hd) fun a w hI' => g4 hL0 (ua hL0 hms hI').push hQ)⟩
     | ret=>
      simp only [Kn.ap,YX] at g1
      obtain ⟨r',hr',rfl⟩:=g1
      simp only [Wn] at h2
      subst h2
      exact ⟨.ret,_,hr',fun hL0 _ _ _ hI hQ=>wp_seq (g2 hL0 (hI.split (sh:=sh) hd) fun a w hI' => hQ a w hI'.push)⟩
     | exit i=>
      simp only [Kn.ap,YX] at g1
      obtain ⟨r',hr',rfl⟩:=g1
      simp only [Wn] at h2
      subst h2
      exact ⟨.exit i,_,hr',fun hL0 _ _ _ hI hQ=>wp_seq (g2 hL0 (hI.split (sh:=sh) hd) fun a w hI' => hQ a w hI'.push)⟩
     | goto l=>cases g1
     | panic ch=>cases g1
     | outgrown=>cases g1
  ·obtain ⟨e1,S1,g1,g2⟩:=kR hC hm x h
   cases e1 with
   | normal=>
    obtain ⟨e2,S2,g3,g4⟩:=kR hC hm y g1
    exact ⟨e2,S2,g3,fun hL0 _ _ _ hI hQ=>wp_seq (g2 hL0 hI fun a w hI' => g4 hL0 hI' hQ)⟩
   | ret=>exact ⟨.ret,S1,g1,fun hL0 _ _ _ hI hQ=>wp_seq (g2 hL0 hI hQ)⟩
   | exit i=>exact ⟨.exit i,S1,g1,fun hL0 _ _ _ hI hQ=>wp_seq (g2 hL0 hI hQ)⟩
   | goto l=>cases g1
   | panic ch=>cases g1
   | outgrown=>cases g1
 | .loop x,R,an,KE,KF,S,K,r,h=>by
  simp only [pA] at h
  split at h
  ·rename_i sh aa
   cases hd:DD KE S
   ·grind
   ·rw [hd] at h
    simp only [f9] at h
    obtain ⟨d0,h1,h2⟩:=bind_some h
    have hI1 : ∀ {L0:List HA} {β:Vn},L0ok L0→∀ a w,jH C.B nt L0 β KE KF S a w→jH C.B nt L0 β (tL sh S++KE) (Aj C.B sh KE KF S++live S.d KF) (sj sh (tL sh S++KE) (Aj C.B sh KE KF S++live S.d KF) S.nn S.nc d0) a w:=fun {L0 β} hL0 a w hI=>ua hL0 h1 (hI.split (sh:=sh) hd)
    clear h h1
    generalize tL sh S=kE at *
    generalize Aj C.B sh KE KF S=kF at *
    replace h2:=Itr.ok _ _ _ h2
    obtain ⟨fuel,h2⟩:=h2
    have key : ∃ e S' m,K.ap e S' = some r∧e≠.normal∧∀ {L0:List HA} {β:Vn},L0ok L0→∀ {Q:Exit→Act→World→Prop} {a:Act} {w:World},jH C.B nt L0 β (kE++KE) (kF++live S.d KF) (sj sh (kE++KE) (kF++live S.d KF) S.nn S.nc d0) a w→(∀ a w,jH C.B nt L0 β KE KF S' a w→Q e a w)→Code.rounds P x Q m a w:=by
     clear hI1
     induction fuel generalizing d0 with
     | zero=>simp [un] at h2
     | succ k ih=>
      simp only [un] at h2
      obtain ⟨z,hz,hk⟩:=bind_some h2
      obtain ⟨e1,S1,g1,g2⟩:=kR hC hm x hz
      have bw : ∀ {e:Exit} {S' : SS},e≠.normal→K.ap e S' = some r→(∀ {L0:List HA} {β:Vn},L0ok L0→∀ {Q:Exit→Act→World→Prop} {a:Act} {w:World},jH C.B nt L0 β (kE++KE) (kF++live S.d KF) (sj sh (kE++KE) (kF++live S.d KF) S.nn S.nc d0) a w→(∀ a w,jH C.B nt L0 β KE KF S' a w→Q e a w)→x.wp P Q a w) →
        ∃ e S' m,K.ap e S' = some r∧e≠.normal∧∀ {L0:List HA} {β:Vn},L0ok L0→∀ {Q:Exit→Act→World→Prop} {a:Act} {w:World},jH C.B nt L0 β (kE++KE) (kF++live S.d KF) (sj sh (kE++KE) (kF++live S.d KF) S.nn S.nc d0) a w→(∀ a w,jH C.B nt L0 β KE KF S' a w→Q e a w)→Code.rounds P x Q m a w:=by
       intro e S' hne hap hwp
       refine ⟨e,S',1,hap,hne,fun {L0 β} hL0 {Q a w} hI hQ=>?_⟩
       rw [rounds_succ]
       refine hwp hL0 hI fun a w hI' => ?_
       cases e with
       | normal=>grind
       | ret=>exact hQ a w hI'
       | exit i=>exact hQ a w hI'
       | goto l=>exact hQ a w hI'
       | panic ch=>exact hQ a w hI'
       | outgrown=>exact hQ a w hI'
      cases e1 with
      | normal=>
       simp only [Kn.ap,YX] at g1
       obtain ⟨d,hms,rfl⟩:=g1
       obtain ⟨e2,S2,m,g3,g5,g4⟩:=ih d hk
       refine ⟨e2,S2,m+1,g3,g5,fun {L0 β} hL0 {Q a w} hI hQ=>?_⟩
       rw [rounds_succ]
       exact g2 hL0 hI fun a w hI' => g4 hL0 (ua hL0 hms hI') hQ
      | ret=>
       simp only [Kn.ap,YX] at g1
       obtain ⟨r',hr',rfl⟩:=g1
       simp only [Wn] at hk
       subst hk
       exact bw (e:=.ret) (by simp) hr' fun hL0 _ _ _ hI hQ=>g2 hL0 hI fun a w hI' => hQ a w hI'.push
      | exit i=>
       simp only [Kn.ap,YX] at g1
       obtain ⟨r',hr',rfl⟩:=g1
       simp only [Wn] at hk
       subst hk
       exact bw (e:=.exit i) (by simp) hr' fun hL0 _ _ _ hI hQ=>g2 hL0 hI fun a w hI' => hQ a w hI'.push
      | goto l=>cases g1
      | panic ch=>cases g1
      | outgrown=>cases g1
    obtain ⟨e,S',m,h3,_,h4⟩:=key
    exact ⟨e,S',h3,fun {L0 β} hL0 {Q a w} hI hQ=>wp_loop_rounds m (h4 hL0 (hI1 hL0 a w hI) hQ)⟩
  ·cases h
 | .rangeFunc _ _ _ _,R,an,KE,KF,S,K,r,h=>by cases h
 | .scope x,R,an,KE,KF,S,K,r,h=>by
  obtain ⟨e,S',h1,h2⟩:=kR hC hm x (by simpa only [pA] using h)
  refine ⟨e,S',h1,fun hL0 _ _ _ hI hQ=>wp_scope_straight (h2 hL0 hI fun a w hI' => ?_)⟩
  have hq:=hQ a w hI'
  cases e with
  | normal=>exact hq
  | ret=>exact hq
  | exit i=>exact hq
  | goto l=>cases h1
  | panic ch=>cases h1
  | outgrown=>cases h1
 | .label _,R,an,KE,KF,S,K,r,h=>⟨.normal,S,h,fun hL0 _ _ _ hI hQ=>wp_label (hQ _ _ hI)⟩
 | .goto _,R,an,KE,KF,S,K,r,h=>by cases h
 | .refuse _,R,an,KE,KF,S,K,r,h=>by cases h
theorem aiE [Itr] (hC:C.ok P) (hm:P.follows .mixedOrders=true) (hL0:L0ok L0) (cd:Code) {R:Type} {an:An} {KE:SE} {KF:List AF} {S:SS} {K:Kn R} {r:R} (h:pA C nt cd R an KE KF S K=some r)
  {Q:Exit→Act→World→Prop}   (hI:jH C.B nt L0 β KE KF S a w)
  (hn : ∀ S',K.n S' = some r→∀ a w,jH C.B nt L0 β KE KF S' a w→Q .normal a w) (hr : ∀ S',K.r S' = some r→∀ a w,jH C.B nt L0 β KE KF S' a w→Q .ret a w)
  (hx : ∀ i S',K.x i S' = some r→∀ a w,jH C.B nt L0 β KE KF S' a w→Q (.exit i) a w):cd.wp P Q a w:=by
 obtain ⟨e,S',h1,h2⟩:=kR hC hm cd h
 refine h2 hL0 hI fun a w hI' => ?_
 cases e with
 | normal=>exact hn S' h1 a w hI'
 | ret=>exact hr S' h1 a w hI'
 | exit i=>exact hx i S' h1 a w hI'
 | goto l=>cases h1
 | panic ch=>cases h1
 | outgrown=>cases h1
end
end
section
variable [X:XTab] [G:GTab]
def Je:(p:PC)→p.den→Nat→AV
 | .d t,x,n=>ra t x n
 | .own _ _,_,n=>.lf (.sl n)
 | .box _ _ _,_,n=>.lf (.bp n 0)
 | .fn f,_,_=>.lf (.fn f)
 | .clo f _,_,n=>.lf (.clo f n)
 | .prt _ _,_,n=>.lf (.sl (n+1))
def Jr:(ps:List PC)→lh ps→Nat→List AV
 | [],_,_=>[]
 | [p],x,n=>[Je p x n]
 | p::p' :: r,x,n=>Je p x.1 n::Jr (p' :: r) x.2 (n+p.nh)
def uS:(t:TC)→t.den→List (Option TypeId)→Nat→Nat→List AF
 | .pair a b,x,os,q,n=>uS a x.1 os q n++uS b x.2 (os.drop a.nh) (q+a.nh) (n+a.nh)
 | .slice t,xs,os,q,n=>match os with
  | some e::_=>[.own t e q [1] xs n]
  | _=>[.rep t [1] xs n]
 | .st a,x,os,q,n=>uS a x os q n
 | .sc _,_,_,_,_=>[]
 | .arr _ _,_,_,_,_=>[]
 | .unit,_,_,_,_=>[]
 | .ext _,_,_,_,_=>[]
 | .node,x,_,_,n=>[.rep .node [1] x.tup.2.2.2 n]
 | .mp k v,xs,os,q,n=>match os with
  | some _::_=>[.mp k v q xs n]
  | _=>[]
def Bv:(p:PC)→p.den→Nat→Nat→List AF
 | .d t,x,_,n=>tD t x [1] n
 | .own t e,xs,q,n=>[.own t e q [1] xs n]
 | .box m t os,x,q,n=>.box (bif m then q else 1) n (jL t x (n+1))::uS t x (bif m then os else []) (q+1) (n+1)
 | .fn _,_,_,_=>[]
 | .clo _ t,x,q,n=>.box 1 n (jL t x (n+1))::uS t x [] (q+1) (n+1)
 | .prt t e,x,q,n=>[.own t e q [1] x.1 n, .prt (n+1) n t.ty.sz x.2.1 x.2.2]
def CK:(ps:List PC)→lh ps→Nat→Nat→List AF
 | [],_,_,_=>[]
 | [p],x,q,n=>Bv p x q n
 | p::p' :: r,x,q,n=>Bv p x.1 q n++CK (p' :: r) x.2 (q+p.nc) (n+p.nh)
def wc:List AV→Nat→SE
 | [],_=>[]
 | v::r,i=>(i,v)::wc r (i+1)
def ah7 (xf:List AF) (ps:List PC) (x:lh ps):SS:=⟨wc (Jr ps x 0) 0,CK ps x 2 0++xf,64,256,[]⟩
def tg (Θ:Tb) (E:SE) (F:List AF):List ResultVar→Option (List AV)
 | []=>some []
 | .tmp t::r=>match bg E t,tg Θ E F r with
  | some v,some vs=>some (v::vs)
  | _,_=>none
 | .cell x t::r=>match bg E x,Θ t,tg Θ E F r with
  | some (.lf (.bp b 0)),some i,some vs=>match kZ b F with
   | some (_,cs)=>match nq cs i.sz with
    | some (_,[])=>match ES i.d.agg cs with
     | some v=>some (v::vs)
     | none=>none
    | _=>none
   | none=>none
  | _,_,_=>none
def oP (F:List AF):List RM→List Lf→Nat→List (Nat×Nat)
 | m::ms, .sl h::ls,j=>(match m.own with
  | some _=>zN F (.sl h) |>.map fun i=>(i,2+2 * j)
  | none=>[])++oP F ms ls (j+1)
 | m::ms, .mp h::ls,j=>(match m.own with
  | some _=>zN F (.mp h) |>.map fun i=>(i,2+2 * j)
  | none=>[])++oP F ms ls (j+1)
 | _::ms,_::ls,j=>oP F ms ls (j+1)
 | _,_,_=>[]
def qU (F:List AF):List RM→List Lf→Nat→List (Nat×Nat)
 | _::ms, .sl h::ls,j=>(Dl F (.sl h)).map (fun k=>(k,129))++qU F ms ls (j+1)
 | _::ms,_::ls,j=>qU F ms ls (j+1)
 | _,_,_=>[]
def acj (g:Nat→Nat) (F:List AF) (t:TC) (m:RM) (l:Lf) (j:Nat):Bool:=match m.own,l with
 | _, .nl=>true
 | some e, .sl h=>bif Nat.ble 4194304 e && !(fG e) then true else match gw t e 0 F (.sl h) with
  | some (i,K,_)=>Nat.beq (g i) (2+2 * j)&&(t.ty.pureB||fG e||sub (K.map g) (m.K 129))
  | none=>false
 | none, .sl h=>match jj t F (.sl h) with
  | some s=>sub (s.all.map g) (m.K 129)
  | none=>false
 | _,_=>false
def vw (g:Nat→Nat) (F:List AF):TC→List RM→List Lf→Nat→Bool
 | .pair a b,ms,ls,j=>vw g F a ms ls j&&vw g F b (ms.drop a.nh) (ls.drop a.nh) (j+a.nh)
 | .slice t,m::_,l::_,j=>acj g F t m l j
 | .slice _,_,_,_=>false
 | .st a,ms,ls,j=>vw g F a ms ls j
 | .mp k v,m::_, .mp h::_,j=>match m.own with
  | some _=>(match uP k v h F with
   | some s=>Nat.beq (g s.i) (2+2 * j)
   | none=>false)
  | none=>true
 | .mp _ _,m::_,_,_=>m.own.isNone
 | _,_,_,_=>true
def tR (g:Nat→Nat) (F:List AF):List TC→List RM→List Lf→Nat→Bool
 | [],_,_,_=>true
 | t::r,ms,ls,j=>vw g F t ms ls j&&tR g F r (ms.drop t.nh) (ls.drop t.nh) (j+t.nh)
def rV (h:Nat) (e:TypeId):List AF→Option Nat
 | []=>none
 | .own _ e' i _ _ h' :: r=>bif Nat.beq h h' then (bif Nat.beq e e' then some i else none) else rV h e r
 | .rep _ _ _ h' :: r=>bif Nat.beq h h' then none else rV h e r
 | .box _ _ _::r=>rV h e r
 | .isn _ _::r=>rV h e r
 | .prt _ _ _ _ _::r=>rV h e r
 | .hol _ _ _ _ _ _ _::r=>rV h e r
 | .mp _ _ _ _ _::r=>rV h e r
 | .pt _ _ _ _ _ _ _::r=>rV h e r
def O0 (k:Nat):ObA:=bif Nat.blt k 64 then .b k else .r (k % 64) (k / 64 - 1)
def F6 (F:List AF) (k:Nat):Option (Nat×List Lf):=bif Nat.blt k 64 then kZ k F else match rV (k % 64) (k / 64 - 1) F with
 | some i=>some (i,[.sl (k % 64)])
 | none=>none
def vl (F:List AF):List Nat→Option (List (Nat×List Lf))
 | []=>some []
 | b::r=>match F6 F b,vl F r with
  | some (i,cs),some vs=>some ((i,cs)::vs)
  | _,_=>none
theorem nJ {t:TC} {h:Nat} {e:TypeId} : ∀ {F:List AF} {i:Nat} {s:SI t},rV h e F=some i→mY t h F=some s→s.own=some (e,i)
 | [],_,_,h1,_=>by simp [rV] at h1
 | .own t' e' i' K xs h' :: r,i,s,h1,h2=>by
  simp only [rV] at h1
  simp only [mY] at h2
  cases hb:Nat.beq h h'
  ·rw [hb] at h1 h2; exact nJ h1 h2
  ·rw [hb] at h1 h2
   simp only [f9] at h1 h2
   cases he:Nat.beq e e'
   ·grind
   ·rw [he] at h1
    simp only [f9,Wn] at h1
    split at h2
    ·simp only [Wn] at h2
     subst h2
     simp_all
    ·cases h2
 | .rep _ _ _ h' :: r,i,s,h1,h2=>by
  simp only [rV] at h1
  simp only [mY] at h2
  cases hb:Nat.beq h h'
  ·rw [hb] at h1 h2; exact nJ h1 h2
  grind
 | .box _ _ _::r,_,_,h1,h2=>nJ (F:=r) h1 h2
 | .isn _ _::r,_,_,h1,h2=>nJ (F:=r) h1 h2
 | .prt _ _ _ _ _::r,_,_,h1,h2=>nJ (F:=r) h1 h2
 | .hol _ _ _ _ _ _ _::r,_,_,h1,h2=>nJ (F:=r) h1 h2
 | .mp _ _ _ _ _::r,_,_,h1,h2=>nJ (F:=r) h1 h2
 | .pt _ _ _ _ _ _ _::r,_,_,h1,h2=>nJ (F:=r) h1 h2
def vQ (F:List AF):(ts:List TC)→List (List Lf)→Option (eL ts×List Lf)
 | [],[]=>some ((),[])
 | [t],[cs]=>match bZ F t cs with
  | some (x,l,_,[])=>some (x,l)
  | _=>none
 | t::t' :: r,cs::vs=>match bZ F t cs,vQ F (t' :: r) vs with
  | some (x,l,_,[]),some (y,l')=>some ((x,y),l++l')
  | _,_=>none
 | _,_=>none
def wd (F:List AF):(ts:List TC)→List AV→List (List Lf)→Option (eL ts×List Lf)
 | ts,[],bs=>vQ F ts bs
 | [t],[v],[]=>match qf F t v with
  | some (x,l,_)=>some (x,l)
  | none=>none
 | t::t' :: r,v::vs,bs=>match qf F t v,wd F (t' :: r) vs bs with
  | some (x,l,_),some (y,l')=>some ((x,y),l++l')
  | _,_=>none
 | _,_,_=>none
def gC:List Nat→Nat→List (Nat×Nat)
 | [],_=>[]
 | i::r,c=>(i,c)::gC r (c+1)
def TA (Θ:Tb) (fn:Func) (C:Sig) (S:SS):Option (eL C.rs):=match tg Θ S.E S.F fn.results.toList,vl S.F C.bl with
 | some vs,some bs=>match wd S.F C.rs vs (bs.map (·.2)) with
  | some (x,l)=>
   let cm:=(gC (bs.map (·.1)) 130++(oP S.F C.ms l 0++qU S.F C.ms l 0)).filter fun p=>Nat.ble 2 p.1
   bif tR (qE cm 2) S.F C.rs C.ms l 0&&Nat.beq C.ms.length l.length&&Nat.beq vs.length C.nr&&(gC (bs.map (·.1)) 130).all (fun p=>Nat.beq (qE cm 2 p.1) p.2) then some x else none
  | none=>none
 | _,_=>none
def vV [Itr] (xf:List AF) (C:Cx) (fn:Func) (an:An) (sg:Sig) (x:lh sg.ps):Option (eL sg.rs):=match fn.body with
 | some cd=>pA (C.at 64) fn.ntmps cd (eL sg.rs) an [] [] (ah7 xf sg.ps x) ⟨TA C.Θ fn sg,TA C.Θ fn sg,fun _ _=>none⟩
 | none=>none
def aM [Itr] (C:Cx) (fn:Func) (an:An) (sg:Sig) (x:lh sg.ps):Option (eL sg.rs):=vV [] C fn an sg x
section
variable {P:Program}
theorem zQ {K:List Nat} {η:Vn} : ∀ (t:TC) (x:t.den) (l:List Hd) (n:Nat),ja η n l→t.nh≤l.length→(tD t x K n).map (AF.ha η)=facts t.ty K x (aO t l)
 | .sc _,_,_,_,_,_=>rfl
 | .arr _ _,_,_,_,_,_=>rfl
 | .unit,_,_,_,_,_=>rfl
 | .pair a b,x,l,n,h,hl=>by
  simp only [TC.nh] at hl
  simp only [tD,Zy,facts,aO]
  rw [zQ a x.1 l n h (by omega),zQ b x.2 (l.drop a.nh) (n+a.nh) (fun j hh hj=>by
   rw [ZT] at hj
   have:=h _ hh hj
   grind) (by simp; omega)]
 | .slice _,x,l,n,h,hl=>by
  simp only [TC.nh] at hl
  cases l with
  | nil=>simp at hl
  | cons hd r=>
   have:=h 0 hd rfl
   simp only [Yk] at this
   simp [tD,AF.ha,facts,aO,this]
 | .st a,x,l,n,h,hl=>zQ a x l n h hl
 | .ext _,_,_,_,_,_=>rfl
 | .node,x,l,n,h,hl=>by
  simp only [TC.nh] at hl
  cases l with
  | nil=>simp at hl
  | cons hd r=>
   have:=h 0 hd rfl
   simp only [Yk] at this
   simp [tD,AF.ha,facts,aO,this]
 | .mp _ _,_,_,_,_,_=>rfl
theorem wv {η:Vn} : ∀ (t:TC) (x:t.den) (os:List (Option TypeId)) (q:Nat) (l:List Hd) (n:Nat),ja η n l→t.nh≤l.length→(uS t x os q n).map (AF.ha η)=jy t x (aO t l) os q
 | .sc _,_,_,_,_,_,_,_=>rfl
 | .arr _ _,_,_,_,_,_,_,_=>rfl
 | .unit,_,_,_,_,_,_,_=>rfl
 | .pair a b,x,os,q,l,n,h,hl=>by
  simp only [TC.nh] at hl
  simp only [uS,Zy,jy,aO]
  rw [wv a x.1 os q l n h (by omega),wv b x.2 (os.drop a.nh) (q+a.nh) (l.drop a.nh) (n+a.nh) (fun j hh hj=>by
   rw [ZT] at hj
   have:=h _ hh hj
   grind) (by simp; omega)]
 | .slice _,x,os,q,l,n,h,hl=>by
  simp only [TC.nh] at hl
  cases l with
  | nil=>simp at hl
  | cons hd r=>
   have:=h 0 hd rfl
   simp only [Yk] at this
   cases os with
   | nil=>simp [uS,AF.ha,jy,aO,this]
   | cons o os=>cases o <;> simp [uS,AF.ha,jy,aO,this]
 | .st a,x,os,q,l,n,h,hl=>wv a x os q l n h hl
 | .ext _,_,_,_,_,_,_,_=>rfl
 | .node,x,os,q,l,n,h,hl=>by
  simp only [TC.nh] at hl
  cases l with
  | nil=>simp at hl
  | cons hd r=>
   have:=h 0 hd rfl
   simp only [Yk] at this
   simp [uS,AF.ha,jy,aO,this]
 | .mp _ _,x,os,q,l,n,h,hl=>by
  simp only [TC.nh] at hl
  cases l with
  | nil=>simp at hl
  | cons hd r=>
   have:=h 0 hd rfl
   simp only [Yk] at this
   cases os with
   | nil=>rfl
   | cons o os=>cases o <;> simp [uS,AF.ha,jy,aO,this]
theorem Nr {η:Vn} : ∀ (p:PC) (x:p.den) (l:List Hd) (n:Nat),ja η n l→(∀ j h,l[j]? = some h→η.b (n+j)=h.blk)→p.nh≤l.length→(Je p x n).val η=p.val x l
 | .d t,x,l,n,h,_,hl=>y7 t x l n h hl
 | .own _ _,_,[],_,_,_,hl=>by simp [PC.nh] at hl
 | .own _ _,_,hd::r,n,h,_,_=>by
  have:=h 0 hd rfl
  simp only [Yk] at this
  simp [Je,PC.val,AV.val,Lf.val,this]
 | .box _ _ _,_,[],_,_,_,hl=>by simp [PC.nh] at hl
 | .box _ _ _,_,hd::r,n,_,hb,_=>by
  have:=hb 0 hd rfl
  simp only [Yk] at this
  simp [Je,PC.val,AV.val,Lf.val,this]
 | .fn _,_,_,_,_,_,_=>rfl
 | .clo _ _,_,[],_,_,_,hl=>by simp [PC.nh] at hl
 | .clo _ _,_,hd::r,n,_,hb,_=>by
  have:=hb 0 hd rfl
  simp only [Yk] at this
  simp [Je,PC.val,AV.val,Lf.val,this]
 | .prt _ _,_,[],_,_,_,hl=>by simp [PC.nh] at hl
 | .prt _ _,_,[_],_,_,_,hl=>by simp [PC.nh] at hl
 | .prt _ _,_,_::hd::r,n,h,_,_=>by
  have:=h 1 hd rfl
  simp [Je,PC.val,AV.val,Lf.val,this]
theorem ja.tail {η:Vn} {n k:Nat} {l:List Hd} (h:ja η n l):ja η (n+k) (l.drop k):=fun j hh hj=>by
 rw [ZT] at hj
 have:=h _ hh hj
 grind
theorem Ot {η:Vn} : ∀ (p:PC) (x:p.den) (q:Nat) (l:List Hd) (n:Nat),ja η n l→(∀ j h,l[j]? = some h→η.b (n+j)=h.blk)→p.nh≤l.length→(Bv p x q n).map (AF.ha η)=p.facts x l q
 | .d t,x,q,l,n,h,_,hl=>zQ t x l n h hl
 | .own _ _,_,_,[],_,_,_,hl=>by simp [PC.nh] at hl
 | .own _ _,_,_,hd::r,n,h,_,_=>by
  have:=h 0 hd rfl
  simp only [Yk] at this
  simp [Bv,PC.facts,AF.ha,this]
 | .box _ _ _,_,_,[],_,_,_,hl=>by simp [PC.nh] at hl
 | .box m t os,x,q,hd::r,n,h,hb,hl=>by
  have:=hb 0 hd rfl
  simp only [Yk] at this
  have hr:ja η (n+1) r:=h.tail (k:=1)
  have hlr:t.nh≤r.length:=by simp [PC.nh] at hl; omega
  simp only [Bv,PC.facts,XH,AF.ha,this,agm,aeK,Z3,jk t x r (n+1) hr hlr,wv t x _ _ r (n+1) hr hlr]
 | .fn _,_,_,_,_,_,_,_=>rfl
 | .clo _ _,_,_,[],_,_,_,hl=>by simp [PC.nh] at hl
 | .clo _ t,x,q,hd::r,n,h,hb,hl=>by
  have:=hb 0 hd rfl
  simp only [Yk] at this
  have hr:ja η (n+1) r:=h.tail (k:=1)
  have hlr:t.nh≤r.length:=by simp [PC.nh] at hl; omega
  simp only [Bv,PC.facts,XH,AF.ha,this,agm,aeK,Z3,jk t x r (n+1) hr hlr,wv t x _ _ r (n+1) hr hlr]
 | .prt _ _,_,_,[],_,_,_,hl=>by simp [PC.nh] at hl
 | .prt _ _,_,_,[_],_,_,_,hl=>by simp [PC.nh] at hl
 | .prt _ _,_,_,h0::h1::r,n,h,_,_=>by
  have e0:=h 0 h0 rfl
  have e1:=h 1 h1 rfl
  simp only [Yk] at e0
  simp [Bv,PC.facts,AF.ha,e0,e1]
theorem Nq {η:Vn} : ∀ (ps:List PC) (x:lh ps) (q:Nat) (l:List Hd) (n:Nat),ja η n l→(∀ j h,l[j]? = some h→η.b (n+j)=h.blk)→rF ps≤l.length →
  AV.vals η (Jr ps x n)=nG ps x l∧(CK ps x q n).map (AF.ha η)=pR ps x l q
 | [],_,_,_,_,_,_,_=>⟨rfl,rfl⟩
 | [p],x,q,l,n,h,hb,hl=>by
  simp only [rF,Yk] at hl
  exact ⟨by simp only [Jr,AV.vals,nG,Nr p x l n h hb hl],Ot p x q l n h hb hl⟩
 | p::p' :: r,x,q,l,n,h,hb,hl=>by
  have e:rF (p::p' :: r)=p.nh+rF (p' :: r):=rfl
  obtain ⟨h1,h2⟩:=Nq (p' :: r) x.2 (q+p.nc) (l.drop p.nh) (n+p.nh) h.tail (fun j hh hj=>by
   grind) (by grind)
  refine ⟨?_,?_⟩
  ·simp only [Jr,AV.vals,nG,h1,Nr p x.1 l n h hb (by omega)]
  ·simp only [CK,Zy,pR,h2,Ot p x.1 q l n h hb (by omega)]
theorem zg {η:Vn} : ∀ {vs:List AV} {i t:Nat} {v:AV},bg (wc vs i) t=some v→∃ j,t=i+j∧(AV.vals η vs)[j]? = some (v.val η)
 | [],_,_,_,h=>by simp [wc,bg] at h
 | u::r,i,t,v,h=>by
  simp only [wc,bg] at h
  cases hb:Nat.beq t i
  ·rw [hb] at h
   obtain ⟨j,h1,h2⟩:=zg (η:=η) h
   exact ⟨j+1,by omega,by simpa [AV.vals] using h2⟩
  ·rw [hb] at h
   simp only [f9,Wn] at h
   subst h
   exact ⟨0,by simp_all,by simp [AV.vals]⟩
theorem Al {Θ:Tb} (hΘ:Θ.ok P) {η:Vn} {ρ:dm} {E:SE} {F:List AF} (hE:nA η ρ E) : ∀ {l:List ResultVar} {vs:List AV},tg Θ E F l=some vs→RF P ρ (F.map (AF.ha η)) l (AV.vals η vs)
 | [],vs,h=>by simp only [tg,Wn] at h; subst h; exact trivial
 | .tmp t::r,vs,h=>by
  simp only [tg] at h
  split at h
  ·rename_i v vs' h1 h2
   simp only [Wn] at h
   subst h
   exact ⟨ah9 (hE t v h1),Al hΘ hE h2⟩
  ·cases h
 | .cell x t::r,vs,h=>by
  simp only [tg] at h
  split at h
  ·rename_i b i vs' h1 hi h2
   split at h
   ·rename_i ci cs hb
    split at h
    ·rename_i q hc
     split at h
     ·rename_i v hv
      simp only [Wn] at h
      subst h
      refine ⟨?_,Al hΘ hE h2⟩
      obtain ⟨g1,g2,_,_⟩:=hΘ t i hi
      obtain ⟨td,ht,hd⟩:=nW g2
      obtain ⟨k,hk⟩:=m9 (gc hb) η
      obtain ⟨e2,l3⟩:=jY hc
      rw [XE] at e2
      subst e2
      have hxv:ρ x = .pointer (some ⟨η.b b,0,none⟩):=hE x _ h1
      cases hag:i.d.agg
      ·rw [hag] at hv hd
       obtain ⟨l,rfl,rfl,hl1⟩:=zR hv η
       refine WA k hk ht hd hxv ?_
       simp [aw,hl1]
      ·rw [hag] at hv hd
       rw [Ao hv η]
       exact ZC k hk ht hd g1 hxv (by simp [l3 η])
     ·cases h
    ·cases h
   ·cases h
  ·cases h
theorem rP {g:Nat→Nat} (hg:Gd g) {F:List AF} {η:Vn} {w:World} {c:bD} (hF:am w c (F.map (AF.ha η))) : ∀ {t:TC} {ls:List Lf} {x:t.den} {l:List Lf} {K:List Nat} {r:List Lf} {ms:List RM} {j:Nat} {l' : List Lf},bZ F t ls=some (x,l,K,r)→vw g F t ms (l++l') j=true →
  ∀ η' : Vn,(∀ (q:Nat) (a:Lf),l[q]? = some a→η'.h (j+q)=a.hd η)→am w (fun b=>g (c b)) ((gI t x ms j).map (AF.ha η'))
 | .sc _,_,_,_,_,_,_,_,_,_,_,_,_=>am.nil _ _
 | .arr _ _,_,_,_,_,_,_,_,_,_,_,_,_=>am.nil _ _
 | .unit,_,_,_,_,_,_,_,_,_,_,_,_=>am.nil _ _
 | .ext _,_,_,_,_,_,_,_,_,_,_,_,_=>am.nil _ _
 | .node,_,_,_,_,_,_,_,_,_,_,_,_=>am.nil _ _
 | .mp k v,[],_,_,_,_,_,_,_,h,_,_,_=>by simp [bZ] at h
 | .mp k v,a::ls,x,l,K,r,ms,j,l',h,hc,η',hn=>by
  cases a with
  | mp hh=>
   simp only [bZ,Wn,W5] at h
   obtain ⟨rfl,rfl,rfl,rfl⟩:=h
   cases ms with
   | nil=>exact am.nil _ _
   | cons m ms=>
    have hna:=hn 0 (.mp hh) rfl
    rw [Yk] at hna
    simp only [Zr,vw] at hc
    simp only [gI]
    cases ho:m.own with
    | none=>exact am.nil _ _
    | some e=>
     simp only [ho] at hc
     cases hs:uP k v hh F with
     | none=>grind
     | some s=>
      simp only [hs] at hc ⊢
      refine am.cons ?_ (am.nil _ _)
      have h3:=HA.ren_holds hg _ (hF _ (W6.2 ⟨_,jT hs,rfl⟩))
      simp only [AF.ha,HA.ren] at h3 ⊢
      rw [Wo hc] at h3
      rw [hna]
      exact h3
  | _=>simp [bZ] at h
 | .st a,_,_,_,_,_,_,_,_,h,hc,η',hn=>rP hg hF (t:=a) h hc η' hn
 | .slice t,[],_,_,_,_,_,_,_,h,_,_,_=>by simp [bZ] at h
 | .slice t,a::ls,x,l,K,r,ms,j,l',h,hc,η',hn=>by
  simp only [bZ] at h
  split at h
  ·rename_i s hs
   simp only [Wn,W5] at h
   obtain ⟨rfl,rfl,rfl,rfl⟩:=h
   cases ms with
   | nil=>exact am.nil _ _
   | cons m ms=>
    have hna:=hn 0 a rfl
    rw [Yk] at hna
    simp only [Zr,vw,acj] at hc
    simp only [gI]
    cases ho:m.own with
    | none=>
     simp only [ho] at hc
     refine am.cons ?_ (am.nil _ _)
     simp only [AF.ha,hna]
     cases a with
     | sl h=>
      simp only [hs] at hc
      exact U3 hg (kS hs hF) hc
     | nl=>
      simp only [jj,Wn] at hs
      subst hs
      exact rO _ _
     | _=>grind
    | some e=>
     cases hsen:(Nat.ble 4194304 e && !(fG e))
     rotate_left
     ·simp only [hsen,f9]; exact am.nil _ _
     simp only [ho] at hc
     simp only [hsen,no]
     refine am.cons ?_ (am.nil _ _)
     simp only [AF.ha,hna]
     cases a with
     | sl h=>
      simp only [hsen,no] at hc
      split at hc
      ·rename_i i K' xs hoi
       simp only [Wp,Ze] at hc
       have hxs:xs=s.xs:=by
        simp only [jj] at hs
        simp only [gw,hs] at hoi
        grind
       rw [← hxs]
       exact Cw hg (gb hoi hF) (Wo hc.1) hc.2
      ·cases hc
     | nl=>
      simp only [jj,Wn] at hs
      subst hs
      exact sB _ _
     | _=>grind
  ·cases h
 | .pair a b,ls,x,l,K,r,ms,j,l',h,hc,η',hn=>by
  simp only [bZ] at h
  split at h
  ·rename_i x1 l1 K1 r1 h1
   split at h
   ·rename_i x2 l2 K2 r2 h2
    simp only [Wn,W5] at h
    obtain ⟨rfl,rfl,rfl,rfl⟩:=h
    simp only [vw,Wp] at hc
    have hn1:=eF a h1
    simp only [gI,Zy]
    refine (rP hg hF h1 (l' := l2++l') (by grind) η' fun q z hz=>hn q z (by grind)).append
     (rP hg hF h2 (l' := l') ?_ η' fun q z hz=>?_)
    ·grind
    grind
   ·cases h
  ·cases h
end
end
section
variable [X:XTab] [G:GTab]
section
variable {P:Program}
theorem Va {F:List AF} {t:TC} {v:AV} {x:t.den} {l:List Lf} {K:List Nat} (h:qf F t v=some (x,l,K)) : ∃ ls r,bZ F t ls=some (x,l,K,r):=by
 cases v with
 | tu _=>cases h
 | ag ls=>
  simp only [qf] at h
  grind
 | lf lf=>
  simp only [qf] at h
  grind
theorem OV {g:Nat→Nat} (hg:Gd g) {F:List AF} {η:Vn} {c:bD} (hF:am w c (F.map (AF.ha η))) : ∀ {ts:List TC} {bl:List Nat} {bs:List (Nat×List Lf)} {x:eL ts} {l:List Lf} {q:Nat},vl F bl=some bs→vQ F ts (bs.map (·.2))=some (x,l)→(gC (bs.map (·.1)) q).all (fun p=>Nat.beq (g p.1) p.2)=true →
  l.length=jC ts∧am w (fun b=>g (c b)) (qh ts x (aS η l) 0 (bl.map fun k=>(O0 k).v η) q) ∧
  ∀ {ms:List RM} {j:Nat},tR g F ts ms l j=true→∀ η' : Vn,(∀ (q:Nat) (a:Lf),l[q]? = some a→η'.h (j+q)=a.hd η)→am w (fun b=>g (c b)) ((pI ts x ms j).map (AF.ha η')):=by
 have box : ∀ {t:TC} {b i q:Nat} {cs l:List Lf} {x:t.den} {K:List Nat} {r:List ObH} (l' : List Hd),aO t l' = aO t (aS η l)→F6 F b=some (i,cs)→bZ F t cs=some (x,l,K,[])→Nat.beq (g i) q=true→am w (fun b=>g (c b)) (rQ t x l' 0 ((O0 b).v η::r) q):=by
  intro t b i q cs l x K r l' hl' hb hd hq
  unfold F6 at hb
  unfold O0
  cases hk:Nat.blt b 64
  ·rw [hk] at hb
   simp only [no] at hb ⊢
   split at hb
   ·rename_i i' hr
    simp only [Wn,W5] at hb
    obtain ⟨rfl,rfl⟩:=hb
    simp only [ObA.v,rQ]
    cases t with
    | slice t=>
     simp only [xl]
     cases hp:(t.ty.pureB||fG (b / 64 - 1))
     ·exact am.nil _ _
     ·simp only [bZ,jj] at hd
      split at hd
      ·rename_i s hs
       simp only [Wn,W5] at hd
       obtain ⟨rfl,rfl,rfl,_⟩:=hd
       have ho:=nJ hr hs
       have hm:=hF _ (W6.2 ⟨_,gK hs,rfl⟩)
       obtain ⟨own,K',xs⟩:=s
       simp only at ho
       subst ho
       refine am.cons ?_ (am.nil _ _)
       exact Cw hg hm (Wo hq) (.inl (by simpa using hp))
      ·cases hd
    | _=>exact am.nil _ _
   ·cases hb
  ·rw [hk] at hb
   simp only [f9] at hb ⊢
   obtain ⟨h1,h2⟩:=xH hb hF
   have e:=(dY (η:=η) t hd).1
   simp only [aw,XE] at e
   simp only [ObA.v,rQ]
   rw [hl',← e]
   exact am.cons ⟨h1,by simp_all⟩ (am.nil _ _)
 have outs : ∀ {b:Nat} {bl:List Nat} {bs:List (Nat×List Lf)},vl F (b::bl)=some bs→∃ i cs bs',bs=(i,cs)::bs' ∧ F6 F b=some (i,cs)∧vl F bl=some bs' := by
  intro b bl bs h
  simp only [vl] at h
  grind
 intro ts
 induction ts with
 | nil=>
  intro bl bs x l q ho h hq
  cases bs with
  | nil=>
   simp only [aaz,vQ,Wn,W5] at h
   obtain ⟨_,rfl⟩:=h
   exact ⟨rfl,am.nil _ _,fun _ _ _=>am.nil _ _⟩
  | cons b bs=>simp [vQ] at h
 | cons t ts ih=>
  intro bl bs x l q ho h hq
  cases bl with
  | nil=>
   simp only [vl,Wn] at ho
   subst ho
   cases ts <;> simp [vQ] at h
  | cons b bl=>
   obtain ⟨i,cs,bs',rfl,hb,ho'⟩:=outs ho
   simp only [XH,gC,aas,Wp] at hq
   cases ts with
   | nil=>
    simp only [XH] at h
    cases bs' with
    | cons _ _=>simp [vQ] at h
    | nil=>
     simp only [aaz,vQ] at h
     split at h
     ·rename_i x' l' K hd
      simp only [Wn,W5] at h
      obtain ⟨rfl,rfl⟩:=h
      refine ⟨by simp only [jC,eF t hd]; omega,box _ rfl hb hd hq.1,fun hc η' hn=>?_⟩
      simp only [tR,afx] at hc
      exact rP hg hF hd (l' := []) (by grind) η' hn
     ·cases h
   | cons t' ts=>
    simp only [XH,vQ] at h
    split at h
    ·rename_i x1 l1 K1 x2 l2 hd hds
     simp only [Wn,W5] at h
     obtain ⟨rfl,rfl⟩:=h
     obtain ⟨n1,n2,n3⟩:=ih ho' hds hq.2
     have hn1:=eF t hd
     have e0:aS η (l1++l2)=aS η l1++aS η l2:=by simp [aS]
     have e1:aO t (aS η (l1++l2))=aO t (aS η l1):=by rw [e0]; exact dW t _ _ (by simp [aS,hn1])
     have e2:(aS η (l1++l2)).drop t.nh=aS η l2:=by
      rw [e0,YB,X2 (by simp [aS,hn1]),show t.nh - (aS η l1).length=0 by simp [aS,hn1]]
      rfl
     have e:jC (t::t' :: ts)=t.nh+jC (t' :: ts):=rfl
     refine ⟨by grind,?_,fun hc η' hn=>?_⟩
     ·simp only [qh,nx,XH,List.tail_cons,e2]
      exact am.append (box _ e1 hb hd hq.1) n2
     ·rw [tR,Wp] at hc
      simp only [pI,Zy]
      refine (rP hg hF hd (l' := l2) hc.1 η' fun q z hz=>hn q z (by grind)).append
       (n3 ?_ η' fun q z hz=>?_)
      ·grind
      grind
    ·cases h
theorem aga {g:Nat→Nat} (hg:Gd g) {F:List AF} {η:Vn} {c:bD} (hF:am w c (F.map (AF.ha η))) : ∀ {ts:List TC} {vs:List AV} {bl:List Nat} {bs:List (Nat×List Lf)} {x:eL ts} {l:List Lf} {q:Nat},vl F bl=some bs→wd F ts vs (bs.map (·.2))=some (x,l)→(gC (bs.map (·.1)) q).all (fun p=>Nat.beq (g p.1) p.2)=true →
  (li ts x (aS η l)).take vs.length=AV.vals η vs∧l.length=jC ts∧am w (fun b=>g (c b)) (qh ts x (aS η l) vs.length (bl.map fun k=>(O0 k).v η) q) ∧
  ∀ {ms:List RM} {j:Nat},tR g F ts ms l j=true→∀ η' : Vn,(∀ (q:Nat) (a:Lf),l[q]? = some a→η'.h (j+q)=a.hd η)→am w (fun b=>g (c b)) ((pI ts x ms j).map (AF.ha η')):=by
 intro ts
 induction ts with
 | nil=>
  intro vs bl bs x l q ho h hq
  cases vs with
  | nil=>
   simp only [wd] at h
   exact ⟨rfl,OV hg hF ho h hq⟩
  | cons v vs=>simp [wd] at h
 | cons t ts ih=>
  intro vs bl bs x l q ho h hq
  cases vs with
  | nil=>
   have h' : vQ F (t::ts) (bs.map (·.2))=some (x,l):=by
    cases ts <;> simpa only [wd] using h
   obtain ⟨n1,n2,n3⟩:=OV hg hF ho h' hq
   exact ⟨rfl,n1,n2,n3⟩
  | cons v vs=>
   cases ts with
   | nil=>
    cases vs with
    | cons _ _=>simp [wd] at h
    | nil=>
     cases bs with
     | cons _ _=>simp [wd] at h
     | nil=>
      simp only [aaz,wd] at h
      split at h
      ·rename_i x' l' K ha
       simp only [Wn,W5] at h
       obtain ⟨rfl,rfl⟩:=h
       obtain ⟨h1,h2,h3⟩:=ue (η:=η) (t:=t) ha
       obtain ⟨ls,r,hd⟩:=Va (t:=t) ha
       refine ⟨by simp only [li,AV.vals,h1]; rfl,by simp only [jC,h2]; omega,am.nil _ _,fun hc η' hn=>?_⟩
       simp only [tR,afx] at hc
       exact rP hg hF hd (l' := []) (by grind) η' hn
      ·cases h
   | cons t' ts=>
    simp only [wd] at h
    split at h
    ·rename_i x1 l1 K1 x2 l2 ha hds
     simp only [Wn,W5] at h
     obtain ⟨rfl,rfl⟩:=h
     obtain ⟨h1,h2,h3⟩:=ue (η:=η) ha
     obtain ⟨ls,r',hd⟩:=Va ha
     obtain ⟨n0,n1,n2,n3⟩:=ih ho hds hq
     have hn1:=eF t hd
     have e0:aS η (l1++l2)=aS η l1++aS η l2:=by simp [aS]
     have e1:aO t (aS η (l1++l2))=aO t (aS η l1):=by rw [e0]; exact dW t _ _ (by simp [aS,hn1])
     have e2:(aS η (l1++l2)).drop t.nh=aS η l2:=by
      rw [e0,YB,X2 (by simp [aS,hn1]),show t.nh - (aS η l1).length=0 by simp [aS,hn1]]
      rfl
     have e:jC (t::t' :: ts)=t.nh+jC (t' :: ts):=rfl
     refine ⟨?_,by grind,?_,fun hc η' hn=>?_⟩
     ·simp only [li,AV.vals,e1,e2,h1,XM,afN,n0]
     ·simp only [qh,nx,rQ,e2,Yv,XM,Nat.add_sub_cancel]
      exact n2
     ·rw [tR,Wp] at hc
      simp only [pI,Zy]
      refine (rP hg hF hd (l' := l2) hc.1 η' fun q z hz=>hn q z (by grind)).append
       (n3 ?_ η' fun q z hz=>?_)
      ·grind
      grind
    ·cases h
theorem Ri {F:List AF} {p:Nat×Nat} : ∀ {ms:List RM} {ls:List Lf} {j:Nat},p∈oP F ms ls j→2≤p.2:=by
 intro ms
 induction ms with
 | nil=>intro ls j h; simp [oP] at h
 | cons m ms ih=>
  intro ls j h
  cases ls with
  | nil=>simp [oP] at h
  | cons z ls=>
   cases z with
   | sl hh=>
    simp only [oP,Xd] at h
    grind
   | mp hh=>
    simp only [oP,Xd] at h
    grind
   | _=>exact ih (by simpa only [oP] using h)
theorem QI {F:List AF} {p:Nat×Nat} : ∀ {ms:List RM} {ls:List Lf} {j:Nat},p∈qU F ms ls j→2≤p.2:=by
 intro ms
 induction ms with
 | nil=>intro ls j h; simp [qU] at h
 | cons m ms ih=>
  intro ls j h
  cases ls with
  | nil=>simp [qU] at h
  | cons z ls=>
   cases z with
   | sl hh=>
    simp only [qU,Xd] at h
    grind
   | _=>exact ih (by simpa only [qU] using h)
theorem VX {p:Nat×Nat} : ∀ {l:List Nat} {q:Nat},2≤q→p∈gC l q→2≤p.2:=by
 intro l
 induction l with
 | nil=>intro q _ h; simp [gC] at h
 | cons i r ih=>
  intro q hq h
  simp only [gC,Xb] at h
  grind
theorem VJ : ∀ (ps:List PC) (x:lh ps) (l:List Hd),(nG ps x l).length=ps.length:=by
 intro ps
 induction ps with
 | nil=>intro x l; rfl
 | cons t ts ih=>
  intro x l
  cases ts with
  | nil=>rfl
  | cons t' ts=>simp only [nG,XM,ih]
theorem Vk [Itr] {C:Cx} (hC:C.ok P) (hm:P.follows .mixedOrders=true) (hf:P.funcs[f]? = some fn) (hname:(fn.name == "runtime.NumGoroutine")=false) {an:An} {sg:Sig}
  {x:lh sg.ps} {r:eL sg.rs} (hbody:fn.body.isSome=true) (hsem : ∀ l:List Hd,l.length=rF sg.ps→∀ w c,am w c (pR sg.ps x l 2)→∃ xf,(∀ A∈xf.map (AF.ha (ηL l)),D5 A)∧vV xf C fn an sg x=some r) (hs:(Nat.ble sg.ps.length fn.ntmps&&Nat.ble (rF sg.ps) 64)=true):Ur P f sg x r:=by
 obtain ⟨cd,hcd⟩:=aez.1 hbody
 refine ⟨⟨fn,cd,hf,hcd,hname⟩,fun l hl w c0 hH=>?_⟩
 obtain ⟨xf,hxf,hsem⟩:=hsem l hl w c0 (fun A hA=>hH A (XP _ hA))
 simp only [vV,hcd] at hsem
 simp only [Wp] at hs
 have hps:=Wt hs.1
 refine O5 (n:=fn.ntmps) hf hcd rfl _ (Yb (by rw [VJ]; exact hps)) hH ?_
 intro a w1 c1 ha hHeap
 have hL0:L0ok (HA.old w c0::ov):=⟨fun A hA=>by
  rcases Xb.1 hA with rfl | hA
  ·intro k hk
   simp [HA.uses] at hk
   omega
  ·obtain ⟨e,_,rfl⟩:=W6.1 hA
   intro k hk
   simp [GEnt.ha,HA.uses] at hk
   omega,fun A hA=>Wq _ hA⟩
 have hnamed:ja (ηL l) 0 l:=fun j h hj=>by simp [ηL,hj]
 have hnb : ∀ j h,l[j]? = some h→(ηL l).b (0+j)=h.blk:=fun j h hj=>by simp [ηL,hj]
 obtain ⟨p1,p2⟩:=Nq (η:=ηL l) sg.ps x 2 l 0 hnamed hnb (by omega)
 have hI:jH 64 fn.ntmps (HA.old w c0::ov) (ηL l) [] [] (ah7 xf sg.ps x) a w1:=by
  refine ⟨ηL l,c1,_,ha,fun t v hlk=>?_,?_,?_,fun _ _=>⟨rfl,rfl⟩⟩
  ·rw [XE] at hlk
   obtain ⟨j,hj,hv⟩:=zg (η:=ηL l) hlk
   grind
  ·rw [show ∀ d,live d []=[] from fun _=>rfl,XE]
   show am w1 c1 ((CK sg.ps x 2 0++xf).map (AF.ha (ηL l)))
   rw [Zy,p2]
   exact am.append (fun A hA=>hHeap A (Wq _ (XP _ hA))) fun A hA=>hxf A hA w1 c1
  ·intro A hA
   rcases Xb.1 hA with rfl | hA
   ·exact hHeap _ W7
   ·exact hHeap A (Wq _ (X5 _ hA))
 have fin : ∀ S',TA C.Θ fn sg S' = some r→∀ a w',jH 64 fn.ntmps (HA.old w c0::ov) (ηL l) [] [] S' a w' → bodyPost P fn (xJ w c0 (fun y : { y:List Hd // y.length=jC sg.rs }=>BS sg.nr sg.rs r y.1)
   (fun y=>(pI sg.rs r sg.ms 0).map (AF.ha (ηL y.1))++qh sg.rs r y.1 sg.nr (DE l sg.bl) 130)) .ret a w' := by
  intro S' hret a w' hI'
  obtain ⟨η,c,ρ,hrel,hE,hFf,hL,hβ⟩:=hI'
  rw [XE] at hE
  rw [show live S'.d []=[] from rfl,XE] at hFf
  unfold TA at hret
  split at hret
  ·rename_i vs bs hvs hbs
   split at hret
   ·rename_i x' ll hd
    simp only at hret
    generalize hcm:(gC (bs.map (·.1)) 130++(oP S'.F sg.ms ll 0++qU S'.F sg.ms ll 0)).filter (fun p=>Nat.ble 2 p.1)=cm at hret
    cases hchk:(tR (qE cm 2) S'.F sg.rs sg.ms ll 0&&Nat.beq sg.ms.length ll.length&&Nat.beq vs.length sg.nr&&(gC (bs.map (·.1)) 130).all (fun p=>Nat.beq (qE cm 2 p.1) p.2))
    ·grind
    ·rw [hchk] at hret
     simp only [f9,Wn] at hret
     subst hret
     simp only [Wp] at hchk
     obtain ⟨⟨⟨hchk,_⟩,hnr⟩,henum⟩:=hchk
     have hnr:=Wo hnr
     have hg:Gd (qE cm 2):=by
      refine Lv ?_
      simp only [aas,Wp]
      refine ⟨rfl,W3.2 fun z hz=>?_⟩
      obtain ⟨p,hp,rfl⟩:=W6.1 hz
      rw [← hcm] at hp
      refine Yb ?_
      have hp:=(ZP.1 hp).1
      rcases Xd.1 hp with hp | hp
      ·exact VX (by omega) hp
      ·rcases Xd.1 hp with hp | hp
       ·exact Ri hp
       ·exact QI hp
     obtain ⟨d1,d2,d3,d4⟩:=aga hg hFf hbs hd henum
     have hres:=Al hC.Θ hE hvs
     have hrun:=AZ (fn:=fn) (rs:=fn.results.toList) (vs:=AV.vals η vs) (by simp) hrel.val hFf hres
     have hnm : ∀ (q:Nat) (z:Lf),ll[q]? = some z→(ηL (aS η ll)).h (0+q)=z.hd η:=fun q z hz=>by
      have:(aS η ll)[q]? = some (z.hd η):=by rw [aS,aa1,hz]; rfl
      simp only [ηL,afu]
      grind
     have hfacts:=d4 hchk (ηL (aS η ll)) hnm
     have hblk:DE l sg.bl=sg.bl.map fun k=>(O0 k).v η:=by
      refine aa3 fun b hb=>?_
      unfold obH O0
      cases hk:Nat.blt b 64
      ·simp only [no,ObA.v,(hβ (b % 64) (Nat.mod_lt _ (by omega))).2]; rfl
      ·have h1:b+1≤64:=Wt hk
       simp only [f9,ObA.v,(hβ b (by omega)).1]; rfl
     obtain ⟨o1,o2,o3,o4⟩:=hL _ W7
     refine ⟨hrel.defers,_,hrun,⟨aS η ll,by simp [aS,d2]⟩,fun b=>qE cm 2 (c b),?_,o4,o1,fun b hb' h01=>⟨(o2 b hb' h01).1,?_⟩,fun b hb' hb'' => hg.two _ (o3 b hb' hb''),hfacts.append (by grind)⟩
     ·congr 1
      simp only [BS]
      rw [← hnr,d1]
      generalize AV.vals η vs=us
      match us with
      | []=>rfl
      | [v]=>rfl
      | v::v' :: us=>
       grind
     ·show qE cm 2 (c b)=_
      rw [(o2 b hb' h01).2]
      rcases (show c0 b=0∨c0 b=1 by omega) with e | e <;> rw [e]
      ·exact hg.z
      ·exact hg.o
   ·cases hret
  ·cases hret
 exact aiE (Cx.at_ok hC 64) hm hL0 cd hsem hI (fun S' h' a w' hI' => fin S' h' a w' hI') (fun S' h' a w' hI' => fin S' h' a w' hI') (fun i S' h' => by cases h')
theorem akB [Itr] {C:Cx} (hC:C.ok P) (hm:P.follows .mixedOrders=true) (hf:P.funcs[f]? = some fn) (hname:(fn.name == "runtime.NumGoroutine")=false) {an:An} {sg:Sig}
  {x:lh sg.ps} {r:eL sg.rs} (hsem:aM C fn an sg x=some r) (hs:(Nat.ble sg.ps.length fn.ntmps&&Nat.ble (rF sg.ps) 64)=true):Ur P f sg x r:=
 Vk hC hm hf hname (by
  simp only [aM,vV] at hsem
  grind) (fun _ _ _ _ _=>⟨[],fun A hA=>by simp at hA,hsem⟩) hs
theorem vA [Itr] {C:Cx} (hC:C.ok P) (hm:P.follows .mixedOrders=true) (hf:P.funcs[f]? = some fn) (hname:(fn.name == "runtime.NumGoroutine")=false) (hbody:fn.body.isSome=true) {an:An} {t:TC} {rs:List TC} {nr:Nat} {ms:List RM}
  {F:List t.den→Option (eL rs)} (hF : ∀ x,F x=vV [.isn 0 false] C fn an ⟨[.d (.slice t)],rs,nr,[],ms⟩ x) (h0:F []=vV [.isn 0 true] C fn an ⟨[.d (.slice t)],rs,nr,[],ms⟩ ([]:List t.den)) (hs:Nat.ble 1 fn.ntmps=true):Ctr.sound P f ⟨⟨[.d (.slice t)],rs,nr,[],ms⟩,F⟩:=by
 intro x r hr
 refine Vk hC hm hf hname (an:=an) hbody (fun l hl w c hH=>?_) (by simp [hs,rF,PC.nh,TC.nh])
 have hr:F x=some r:=hr
 have hl:l.length=1:=by simpa [rF,PC.nh,TC.nh] using hl
 match l,hl with
 | [h],_=>
  cases hn:h.isNil with
  | false=>exact ⟨[.isn 0 false],fun A hA=>by
    simp only [XH,aaz,Wz] at hA
    subst hA
    intro w c
    show (h.isNil=false)
    exact hn,(hF x).symm.trans hr⟩
  | true=>
   have hx:x=([]:List t.den):=by
    obtain ⟨ys,hr,h1,h2,h3,h4⟩:=hH (.rep t.ty [1] x h) W7
    rcases h4 with ⟨_,hc⟩ | ⟨b,off,arr,ty',fz,ha',_⟩
    ·simp_all
    ·simp [Hd.isNil,ha'] at hn
   subst hx
   exact ⟨[.isn 0 true],fun A hA=>by
    simp only [XH,aaz,Wz] at hA
    subst hA
    intro w c
    show (h.isNil=true)
    exact hn,h0.symm.trans hr⟩
theorem aj [Itr] {C:Cx} (hC:C.ok P) (hm:P.follows .mixedOrders=true) (hf:P.funcs[f]? = some fn) (hname:(fn.name == "runtime.NumGoroutine")=false) {an:An} {sg:Sig}
  {F:lh sg.ps→Option (eL sg.rs)} (hF : ∀ x,F x=aM C fn an sg x) (hs:(Nat.ble sg.ps.length fn.ntmps&&Nat.ble (rF sg.ps) 64)=true):Ctr.sound P f ⟨sg,F⟩:=
 fun x _ hr=>akB hC hm hf hname (an:=an) ((hF x).symm.trans hr) hs
def aI (C:Cx) (f:FuncId) (ct:Ctr):Cx:=⟨fun g=>bif Nat.beq g f then ct::C.Γ g else C.Γ g,C.Θ,C.G,C.D,C.W,C.I,C.B,C.K,C.O⟩
theorem ai {C:Cx} (hC:C.ok P) {ct:Ctr} (h:ct.sound P f):(aI C f ct).ok P:=by
 refine ⟨fun g c hg=>?_,hC.Θ,hC.G,hC.D,hC.I⟩
 simp only [aI] at hg
 cases hb:Nat.beq g f
 ·rw [hb] at hg; exact hC.Γ g c hg
 ·rw [hb] at hg
  simp only [f9,Xb] at hg
  rcases hg with rfl | hg
  ·simp_all
  ·exact hC.Γ g c hg
def aiG (C:Cx) (d:DCtr) (W:Bool):Cx:=⟨C.Γ,C.Θ,C.G,d::C.D,W,C.I,C.B,C.K,C.O⟩
theorem agy {C:Cx} (hC:C.ok P) {d:DCtr} {W:Bool} (h:d.sound P):(aiG C d W).ok P:=
 ⟨hC.Γ,hC.Θ,hC.G,fun e he=>by
  rcases Xb.1 he with rfl | he
  ·exact h
  ·exact hC.D e he,hC.I⟩
def Cx.wr (C:Cx):Cx:=⟨C.Γ,C.Θ,C.G,C.D,true,C.I,C.B,C.K,C.O⟩
end
end
end Go.Sm
