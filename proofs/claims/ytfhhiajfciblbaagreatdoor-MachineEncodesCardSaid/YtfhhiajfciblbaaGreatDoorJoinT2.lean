/- Laws for the row. No condition. -/
import Derived.ProofKit
import Derived.Test.YtfhhiajfciblbaaGreatDoorRfR
import Derived.SizedLaws
import Derived.LaidLaws
namespace Go.Sm
open Go.ChangeShapes Go.WideShapes Go.ChangeAt Go.RowKit Go.WideElems
set_option linter.unusedSectionVars false
variable {v:Value} {cs:List Value} {w:World}
section
variable [X:XTab] [G:GTab]
abbrev xp:Nat->Prop:=λ_=>True
theorem afE(b:Nat):qG xp b∈[1]:=by simp[qG]
def zG:TD->SC->Bool
 |.int k,.int k'=>decide (k=k')
 |.bool,.bool=>true
 |.str,.str=>true
 |_,_=>false
def zf(Θ:Tb)(t:TypeId)(sz:Nat):Bool:=match Θ t with
 |some i=>Nat.beq i.sz sz
 |none=>false
def qd(M:TypeId->TC->Bool)(Θ:Tb):List (TypeId×Nat)->TC->Nat->Bool
 |[(t,off)],tc,pos=>Nat.beq off pos&&M t tc&&zf Θ t tc.ty.sz
 |(t,off)::f::r,.pair a b,pos=>Nat.beq off pos&&M t a&&zf Θ t a.ty.sz&&qd M Θ (f::r) b (pos+a.ty.sz)
 |_,_,_=>false
def stB(M:TypeId->TC->Bool)(Θ:Tb)(fs:List (TypeId×Nat))(tc:TC):Bool:=match fs,tc with
 |[f],.st a=>qd M Θ [f] a 0
 |f::g::r,tc=>qd M Θ (f::g::r) tc 0
 |_,_=>false
def zJ(Θ:Tb):Nat->TypeId->TC->Bool
 |0,_,_=>false
 | n+1,t,tc=>match Θ t with
  | some i=>match i.d,tc with
   |.arr m e,.arr m' s=>Nat.beq m m'&&Nat.beq i.sz m&&match Θ e with
    |some ie=>zG ie.d s&&Nat.beq ie.sz 1
    |none=>false
   |.slice e,.slice te=>zJ Θ n e te&&zf Θ e te.ty.sz&&Nat.ble 1 te.ty.sz
   |.st fs,tc=>stB (zJ Θ n) Θ fs tc&&Nat.beq i.sz tc.ty.sz
   |d,.sc s=>zG d s
   |_,_=>false
  |none=>false
def RW:(s:SC)->s.den->Prop
 |.int k,n=>(Lit.int k n).wf=true
 |.str,s=>s.length<=maxLen
 |.bool,_=>True
 |.fnc,_=>True
def zR:(t:TC)->t.den->Prop
 |.sc s,x=>RW s x
 |.arr n s,xs=>List.length (α:=s.den) xs=n/\∀x∈(show List s.den from xs),RW s x
 |.unit,_=>True
 |.pair a b,x=>zR a x.1/\zR b x.2
 |.slice t,xs=>List.length (α:=t.den) xs<=maxLen/\∀x∈(show List t.den from xs),zR t x
 |.st t,x=>zR t x
 |.ext _,_=>True
 |.node,_=>True
 |.mp _ _,_=>True
section
variable {P:Program} {H:Type} {enc:TypeId×Value->H} {w:World} {Θ:Tb}
theorem nF(hΘ:Θ.ok P){t:TypeId}{sz:Nat}(h:zf Θ t sz=true):P.cellsOf t=sz:=by
 unfold zf at h;split at h
 ·rename_i i hi;obtain⟨inf,h1,_,h2,_⟩:=(hΘ t i hi).1.get;simp only[Program.cellsOf,h1,alR,afy,h2];simp_all
 ·cases h
theorem rg{α β:Type}{f:α->Option β}:∀{l:List α} {r:List β},l.mapM f=some r->r.length=l.length/\∀(i:Nat) (a:α),l[i]?=some a->∃b,r[i]?=some b/\f a=some b
 |[],r,h=>by grind
 |x::l,r,h=>by simp only[alU,Option.bind_eq_bind,acu,Option.pure_def,no]at h;obtain⟨b,hb,r',hr',rfl⟩:=h;obtain⟨h1,h2⟩:=rg hr';grind
def GN(w:World)(tc:TC)(cs:List Value):Prop:=∃(x:tc.den) (y:tc.ty.Refs),cs=tc.ty.fill x y/\bU w xp tc.ty x y/\zR tc x
theorem RE{t:TypeId}{i:TInf}{s:SC}(hi:TInf.fits P t i.d)(hs:zG i.d s=true){fuel:Nat}{r:DataW H×List MemPlace}(h:DataW.trod enc P w 0 (λ_=>true) true fuel t cs=some r):∃x:s.den,cs=[s.val x]/\RW s x:=by
 cases fuel with
 |zero=>simp[DataW.trod]at h
 | succ fuel=>
  generalize i.d=d at hi hs;cases d<;>cases s<;>simp only[zG,aeM]at hs<;>try cases hs
  ·rename_i k;have hi:P.underlying t=some (.int k):=hi;unfold DataW.trod at h;rw[hi]at h;match cs,h with
   |[.int k' n],h=>
    simp only at h;split at h
    ·rename_i hk;obtain⟨rfl,hw⟩:=hk;exact⟨n,rfl,hw⟩
    ·cases h
  ·have hi:P.underlying t=some .bool:=hi;unfold DataW.trod at h;rw[hi]at h;match cs,h with
   |[.bool b],_=>exact⟨b,rfl,trivial⟩
  ·have hi:P.underlying t=some .string:=hi;unfold DataW.trod at h;rw[hi]at h;match cs,h with
   |[.string s],h=>
    simp only at h;split at h
    ·rename_i hl;exact⟨s.data.toList,rfl,by show s.data.toList.length<=maxLen;simpa using hl⟩
    ·cases h
theorem ac2{a:Addr}(h:w.cell? a=some v):∃arr ty fz,a.spot=none/\w.heap[a.block]?=some (.cells arr ty fz)/\arr[a.off]?=some v:=by
 unfold World.cell? at h;split at h
 ·simp_all
 ·cases h
theorem YN{b off n:Nat}{arr:Array Value}{ty:TypeId}{fz:Nat×Nat}(hb:w.heap[b]?=some (.cells arr ty fz))(h:w.cells? 0 ⟨b,off,none⟩ n=some cs):cs.length=n/\(arr.toList.drop off).take n=cs/\(1<=n->off+n<=arr.size):=by
 unfold World.cells? at h;rw[if_pos (afX _)]at h;obtain⟨h1,h2⟩:=rg h;rw[ajF]at h1;have hat:∀i,i<n->arr[off+i]?=cs[i]?:=λi hi=>by obtain⟨v,hv,hc⟩:=h2 i i (by simp[hi]);rw[fg]at hc;unfold World.cell? at hc;grind
 have hsz:1<=n->off+n<=arr.size:=λhn=>by have e:=hat (n-1) (by omega);grind
 refine⟨h1,?_,hsz⟩;apply ac7;grind
theorem xH(hΘ:Θ.ok P){n:Nat}(ih:∀(t:TypeId) (tc:TC) (fuel:Nat) (cs:List Value) (r:DataW H×List MemPlace),zJ Θ n t tc=true->DataW.trod enc P w 0 (λ_=>true) true fuel t cs=some r->GN w tc cs){fuel:Nat}{cs:List Value} :
  ∀(fs:List (TypeId×Nat)) (tc:TC) (pos:Nat),qd (zJ Θ n) Θ fs tc pos=true ->
   (∀f∈fs,∃r,DataW.trod enc P w 0 (λ_=>true) true fuel f.1 ((cs.drop f.2).take (P.cellsOf f.1))=some r)->GN w tc ((cs.drop pos).take tc.ty.sz)
 |[],_,_,h,_=>by simp[qd]at h
 |[(t,off)],tc,pos,h,hr=>by grind[qd,List.mem_cons_self,nF,Nat.eq_of_beq_eq_true]
 |(t,off)::f::fs,.pair a b,pos,h,hr=>by simp only[qd,aas]at h;obtain⟨⟨⟨h1,h2⟩,h3⟩,h4⟩:=h;obtain⟨r,hr1⟩:=hr (t,off) aaQ;simp only at hr1;rw[nF hΘ h3,amb h1]at hr1;obtain⟨x,y,e1,r1,w1⟩:=ih t a fuel _ r h2 hr1;obtain⟨x2,y2,e2,r2,w2⟩:=xH hΘ ih (f::fs) b (pos+a.ty.sz) h4 λg hg=>hr g (aaw _ hg);refine⟨(x,x2),(y,y2),?_,⟨r1,r2⟩,⟨w1,w2⟩⟩;show(cs.drop pos).take (a.ty.sz+b.ty.sz)=a.ty.fill x y++b.ty.fill x2 y2;rw[<-e1,<-e2,al5,aec]
 |_::_::_,.sc _,_,h,_=>by simp[qd]at h
 |_::_::_,.arr _ _,_,h,_=>by simp[qd]at h
 |_::_::_,.unit,_,h,_=>by simp[qd]at h
 |_::_::_,.slice _,_,h,_=>by simp[qd]at h
 |_::_::_,.st _,_,h,_=>by simp[qd]at h
 |_::_::_,.ext _,_,h,_=>by simp[qd]at h
 |_::_::_,.node,_,h,_=>by simp[qd]at h
 |_::_::_,.mp _ _,_,h,_=>by simp[qd]at h
theorem SQ{tc:TC}{sz:Nat}(hsz:sz=tc.ty.sz)(h1:1<=sz){a:Addr}{len cap:Nat}(hle:len<=cap)(hm:cap<=maxLen)(hall:∀i,i<cap->∃cs,w.cells? 0 (a.add (i*sz)) sz=some cs/\(i<len->GN w tc cs)) :
  GN w (.slice tc) [.slice (some a) len cap]:=by
 by_cases h0:cap=0
 ·have hl0:len=0:=by omega
  subst hl0;exact⟨([]:List tc.den),(⟨some a,0,cap⟩:Hd),rfl,⟨[],trivial,rfl,by simp,hm,.inl ⟨trivial,h0⟩⟩,by simp[zR,maxLen]⟩
 ·obtain⟨cs0,hc0,_⟩:=hall 0 (by omega);have hcell:∃v,w.cell? a=some v:=by
   unfold World.cells? at hc0;rw[if_pos (afX _)]at hc0;obtain⟨_,h2⟩:=rg hc0;obtain⟨v,_,hv⟩:=h2 0 0 (by grind);exact⟨v,by simpa[Addr.add]using hv⟩
  obtain⟨v,hv⟩:=hcell;obtain⟨arr,ty,fz,hspot,hb,_⟩:=ac2 hv;obtain⟨b,off,spot⟩:=a;simp only at hspot hb;subst hspot;have hrow:∀i,i<cap->∃cs,(arr.toList.drop (off+i*sz)).take sz=cs/\off+i*sz+sz<=arr.size/\(i<len->GN w tc cs):=λi hi=>by obtain⟨cs,hc,hr⟩:=hall i hi;rw[fg]at hc;obtain⟨_,k2,k3⟩:=YN hb hc;grind
  have gen:∀k,k<=len->∃(xs:List tc.den) (ys:List tc.ty.Refs),xs.length=k/\cy (bU w xp tc.ty) xs ys/\(arr.toList.drop off).take (k*sz)=cellsOf tc.ty xs ys/\∀x∈xs,zR tc x:=by
   intro k;induction k with
   |zero=>intro _;exact⟨[],[],rfl,trivial,by simp[cellsOf],by simp⟩
   |succ k ih=>
    intro hk;obtain⟨xs,ys,e1,r1,c1,w1⟩:=ih (by omega);obtain⟨cs,hcs,_,hr⟩:=hrow k (by omega);obtain⟨x,y,e2,r2,w2⟩:=hr (by omega);refine⟨xs++[x],ys++[y],by simp[e1],r1.append ⟨r2,trivial⟩,?_,λz hz=>?_⟩
    ·rw[eV tc.ty r1.length,<-c1,show(k+1)*sz=k*sz+sz by grind,al5,aec];congr 1;rw[hcs,e2];simp[cellsOf]
    grind
  obtain⟨xs,ys,e1,r1,c1,w1⟩:=gen len (aaT _);obtain⟨_,_,hlast,_⟩:=hrow (cap-1) (by omega);refine⟨xs,(⟨some ⟨b,off,none⟩,len,cap⟩:Hd),rfl,⟨ys,r1,e1.symm,(show xs.length<=cap by omega),hm,.inr ⟨b,off,arr,ty,fz,rfl,trivial,hb,?_,?_⟩⟩,⟨show xs.length<=maxLen by omega,w1⟩⟩
  ·show off+cap*tc.ty.sz<=arr.size;rw[<-hsz];have:cap*sz=(cap-1)*sz+sz:=by
    conv=>lhs;rw[show cap=(cap-1)+1 by omega,adJ]
    omega
   omega
  grind
theorem NN(hΘ:Θ.ok P):∀(n:Nat) (t:TypeId) (tc:TC) (fuel:Nat) (cs:List Value) (r:DataW H×List MemPlace),zJ Θ n t tc=true->DataW.trod enc P w 0 (λ_=>true) true fuel t cs=some r->GN w tc cs
 |0,_,_,_,_,_,h,_=>by simp[zJ]at h
 | n+1,t,tc,fuel,cs,r,hm,h=>by
  have ih:=NN hΘ n;simp only[zJ]at hm;split at hm
  ·rename_i i hi;obtain⟨hti,hfit,_,_⟩:=hΘ t i hi;split at hm
   ·rename_i m e m' s hd;simp only[aas]at hm;obtain⟨⟨hmm,hsz⟩,he⟩:=hm;obtain rfl:=amb hmm;split at he
    ·rename_i ie hie;simp only[aas]at he;rw[hd]at hfit;have hu:P.underlying t=some (.array m e):=hfit;have hce:P.cellsOf e=1:=nF hΘ (by simp only[zf,hie];exact he.2);have hct:P.cellsOf t=m:=nF hΘ (by simp only[zf,hi];exact hsz);cases fuel with
     |zero=>simp[DataW.trod]at h
     | succ fuel=>
      unfold DataW.trod at h;rw[hu]at h;simp only at h;split at h
      ·rename_i hlen;rw[hct]at hlen;simp only[acr]at h;obtain⟨xs,hxs,_⟩:=h;obtain⟨_,h2⟩:=rg hxs;have hel:∀j,j<m->∃x:s.den,cs[j]?=some (s.val x)/\RW s x:=λj hj=>by
        obtain⟨b,_,hb⟩:=h2 j j (by simp[hj]);obtain⟨x,e1,e2⟩:=RE (hΘ e ie hie).2.1 he.1 hb;rw[hce,afD]at e1;have:=aba (·[0]?) e1;grind
       have gen:∀k,k<=m->∃xs:List s.den,xs.length=k/\cs.take k=xs.map s.val/\∀x∈xs,RW s x:=by
        intro k;induction k with
        |zero=>simp_all
        |succ k ihk=>
         intro hk;obtain⟨xs,e1,e2,e3⟩:=ihk (by omega);obtain⟨x,e4,e5⟩:=hel k (by omega);refine⟨xs++[x],by simp[e1],?_,λz hz=>?_⟩
         ·rw[alc,e4,e2];simp
         grind
       obtain⟨ys,e1,e2,e3⟩:=gen m (aaT _);refine⟨ys,(),?_,trivial,⟨e1,e3⟩⟩;have:cs=ys.map s.val:=by grind
       rw[this];apply ac7;grind[vx,List.getElem?_eq_getElem,List.getElem?_eq_none,Ty.fill_length]
      ·cases h
    ·cases he
   ·rename_i e te hd;simp only[aas]at hm;obtain⟨⟨hme,hse⟩,h1⟩:=hm;rw[hd]at hfit;have hu:P.underlying t=some (.slice e):=hfit;have hce:=nF hΘ hse;have h1:=aaA h1;cases fuel with
    |zero=>simp[DataW.trod]at h
    | succ fuel=>
     unfold DataW.trod at h;rw[hu]at h;match cs,h with
     |[.slice none 0 0],_=>exact⟨([]:List te.den),(⟨none,0,0⟩:Hd),rfl,⟨[],trivial,rfl,by simp,by simp[maxLen],.inl ⟨trivial,rfl⟩⟩,by simp[zR,maxLen]⟩
     | [.slice (some a) len cap],h=>
      simp only at h;split at h
      ·rename_i hb;obtain⟨_,hle,hmx⟩:=hb;simp only[acu]at h;obtain⟨elems,hel,h⟩:=h;simp only[ace,acr]at h;obtain⟨rest,hrest,_⟩:=h;obtain⟨_,k1⟩:=rg hel;obtain⟨_,k2⟩:=rg hrest;refine SQ (tc:=te) rfl h1 hle hmx λi hi=>?_
       rw[<-hce];by_cases hil:i<len
       ·obtain⟨b,_,hb⟩:=k1 i i (by simp[hil]);simp only[acu]at hb;obtain⟨cs',hc,ht⟩:=hb;exact⟨cs',hc,λ_=>ih e te fuel cs' b hme ht⟩
       ·obtain⟨b,_,hb⟩:=k2 (i-len) (i-len) (by rw[age (by omega)]);rw[show len+(i-len)=i by omega]at hb;simp only[acu]at hb;obtain⟨cs',hc,_⟩:=hb;exact⟨cs',hc,λhh=>absurd hh hil⟩
      ·cases h
   ·rename_i tc _ _ fs hd;simp only[aas]at hm;obtain⟨hst,hsz⟩:=hm;rw[hd]at hfit;obtain⟨Fd,hu,hfs⟩:=hfit;have hct:P.cellsOf t=tc.ty.sz:=nF hΘ (by simp only[zf,hi];exact hsz);cases fuel with
    |zero=>simp[DataW.trod]at h
    | succ fuel=>
     unfold DataW.trod at h;rw[hu]at h;simp only at h;split at h
     ·rename_i hlen;rw[hct]at hlen;simp only[acr]at h;obtain⟨xs,hxs,_⟩:=h;obtain⟨_,h2⟩:=rg hxs;have hall:∀f∈fs,∃r,DataW.trod enc P w 0 (λ_=>true) true fuel f.1 ((cs.drop f.2).take (P.cellsOf f.1))=some r:=λf hf=>by
       grind[List.mem_iff_getElem?]
      unfold stB at hst;split at hst
      ·rename_i f a;have:=xH hΘ ih [f] a 0 hst hall;rw[adi,ab4 (by grind)]at this;exact this
      ·rename_i f g r;have:=xH hΘ ih (f::g::r) tc 0 hst hall;grind
      ·cases hst
     ·cases h
   ·rename_i s _ _ _;obtain⟨x,e1,e2⟩:=RE hfit hm h;exact⟨x,(),e1,trivial,e2⟩
   ·cases hm
  ·cases hm
end
end
section
variable [X:XTab] [G:GTab]
section
variable {P:Program} {H:Type} {enc:TypeId×Value->H} {W:World} {Θ:Tb}
theorem aqP(h:∀cs,v≠.agg cs):v.cells.toList=[v]:=by cases v<;>first|rfl|grind
theorem yM{r:Reach}{b0:Nat}{t:TypeId}(ht:(∃F,P.underlying t=some (.struct F))\/∃n e,P.underlying t=some (.array n e))(h:Value.okWide P W r b0 t v):∃cs,v=.agg cs:=by grind[Value.okWide]
theorem aaU{Θ:Tb}{n:Nat}{t:TypeId}{tc:TC}(h:zJ Θ n t tc=true):∃i,Θ t=some i/\((∃s,tc=.sc s/\zG i.d s=true)\/(∃m s m' e,tc=.arr m s/\i.d=.arr m' e)\/(∃te e,tc=.slice te/\i.d=.slice e)\/∃fs,i.d=.st fs/\((∃a b,tc=.pair a b)\/∃a,tc=.st a)):=by
 cases n with
 |zero=>simp[zJ]at h
 | succ n=>
  simp only[zJ]at h;split at h
  ·rename_i i hi;refine⟨i,hi,?_⟩;split at h
   ·grind
   ·grind
   ·rename_i fs hd;refine .inr (.inr (.inr ⟨_,hd,?_⟩));simp only[aas]at h;have h1:=h.1;unfold stB at h1;split at h1
    ·grind
    ·rename_i tc' _ _ _ _ _ _;unfold qd at h1;grind
    ·cases h1
   ·grind
   ·cases h
  ·cases h
theorem abW(hΘ:Θ.ok P){r:Reach}{b0 n:Nat}{t:TypeId}{tc:TC}{d:DataW H}{ps:List MemPlace}(hm:zJ Θ n t tc=true)(hval:Value.okWide P W r b0 t v)
  (h:DataW.Trod enc P W 0 (λ_=>true) true t v d ps):∃(x:tc.den) (y:tc.ty.Refs),v=mH tc x y/\bU W xp tc.ty x y/\zR tc x:=by
 obtain⟨fuel,hf⟩:=h;have hrd:=NN hΘ n t tc fuel _ _ hm hf;obtain⟨i,hi,hk⟩:=aaU hm;have hfit:=(hΘ t i hi).2.1;have agg:(∃cs,v=.agg cs)->∀{l:List Value},v.cells.toList=l->v=.agg l.toArray:=λhv l hl=>by obtain⟨cs,rfl⟩:=hv;rw[<-hl];rfl
 have one:(∀cs,v≠.agg cs)->∀{u},v.cells.toList=[u]->v=u:=λhv u hu=>by rw[aqP hv]at hu;grind
 rcases hk with⟨s,rfl,hs⟩|⟨m,s,m',e,rfl,hd⟩|⟨te,e,rfl,hd⟩|⟨fs,hd,⟨a,b,rfl⟩|⟨a,rfl⟩⟩
 ·obtain⟨x,y,hcs,hr,hw⟩:=hrd;refine⟨x,y,one ?_ hcs,hr,hw⟩;generalize i.d=d at hs hfit;cases s with
  |int k=>
   cases d<;>simp only[zG,aeM]at hs<;>try cases hs
   obtain⟨k,rfl⟩:=okWide_int (show P.underlying t=some (.int _)from hfit) hval;grind
  |bool=>
   cases d<;>simp only[zG]at hs<;>try cases hs
   obtain⟨k,rfl⟩:=okWide_bool (show P.underlying t=some .bool from hfit) hval;grind
  |str=>
   cases d<;>simp only[zG]at hs<;>try cases hs
   obtain⟨k,rfl⟩:=okWide_string (show P.underlying t=some .string from hfit) hval;grind
  |fnc=>cases d<;>simp only[zG]at hs<;>cases hs
 ·obtain⟨x,y,hcs,hr,hw⟩:=hrd;rw[hd]at hfit;exact⟨x,y,agg (yM (.inr ⟨m',e,hfit⟩) hval) hcs,hr,hw⟩
 ·obtain⟨x,y,hcs,hr,hw⟩:=hrd;rw[hd]at hfit;obtain⟨a,len,cap,rfl⟩:=okWide_slice hfit hval;exact⟨x,y,one (λ_ hh=>by cases hh) hcs,hr,hw⟩
 ·obtain⟨x,y,hcs,hr,hw⟩:=hrd;rw[hd]at hfit;obtain⟨F,hu,_⟩:=hfit;exact⟨x,y,agg (yM (.inl ⟨F,hu⟩) hval) hcs,hr,hw⟩
 ·obtain⟨x,y,hcs,hr,hw⟩:=hrd;rw[hd]at hfit;obtain⟨F,hu,_⟩:=hfit;exact⟨x,y,agg (yM (.inl ⟨F,hu⟩) hval) hcs,hr,hw⟩
theorem vN:(t:TC)->(y:t.ty.Refs)->(l:List Hd)->aP t (cP t y++l)=y
 |.sc _,_,_=>rfl
 |.arr _ _,_,_=>rfl
 |.unit,_,_=>rfl
 |.pair a b,y,l=>by
  simp only[aP,cP,aaW];rw[vN a y.1];have:List.drop a.nh (cP a y.1++(cP b y.2++l))=cP b y.2++l:=by rw[<-dp a y.1,List.drop_left]
  rw[this,vN b y.2]
 |.slice _,_,_=>rfl
 |.st t,y,l=>vN t y l
 |.ext _,_,_=>rfl
 |.node,_,_=>rfl
 |.mp _ _,_,_=>rfl
def WfP:(tcs:List TC)->lx (tcs.map PC.d)->Prop
 |[],_=>True
 |[t],x=>zR t x
 |t::t'::r,x=>zR t x.1/\WfP (t'::r) x.2
def MB(Θ:Tb)(n:Nat):List TypeId->List TC->Bool
 |[],[]=>true
 |t::ts,tc::tcs=>zJ Θ n t tc&&MB Θ n ts tcs
 |_,_=>false
theorem Pd(hΘ:Θ.ok P){r:Reach}{b0 n:Nat}:∀{ts:List TypeId} {tcs:List TC} {vs:List Value} {ds:List (DataW H)} {ps:List MemPlace} (q:Nat),MB Θ n ts tcs=true->(∀(j:Nat) t v,ts[j]?=some t->vs[j]?=some v->Value.okWide P W r b0 t v) ->
  DataW.TrodAll enc P W 0 (λ_=>true) true ts vs ds ps->∃(x:lx (tcs.map PC.d)) (l:List Hd),l.length=sC (tcs.map PC.d)/\vs=nT (tcs.map PC.d) x l/\aq W (qG xp) (qt (tcs.map PC.d) x l q)/\WfP tcs x
 |[],[],vs,ds,ps,q,_,_,h=>by cases vs<;>cases ds<;>simp only[DataW.TrodAll]at h;exact⟨(),[],rfl,rfl,aq.nil _ _,trivial⟩
 |[],_::_,_,_,_,_,hm,_,_=>by simp[MB]at hm
 |_::_,[],_,_,_,_,hm,_,_=>by simp[MB]at hm
 | t::ts,tc::tcs,vs,ds,ps,q,hm,hv,h=>by
  obtain⟨v,vs',d,ds',p,p',rfl,rfl,rfl,h1,h2⟩:=trodAll_cons h;simp only[MB,aas]at hm;obtain⟨x,y,hx,hr,hw⟩:=abW hΘ hm.1 (hv 0 t v rfl rfl) h1;have hr1:bU W (λb=>qG xp b∈[1]) tc.ty x y:=bU.keep (λb _ _=>⟨afE b,rfl⟩) tc.ty x y hr;match ts,tcs,hm.2,h2 with
  |[],[],_,h2=>
   cases vs'<;>cases ds'<;>simp only[DataW.TrodAll]at h2;have e:aP tc (cP tc y)=y:=by simpa using vN tc y []
   refine⟨x,cP tc y,?_,?_,?_,hw⟩
   ·show _=tc.nh+0;rw[dp];rfl
   ·show [v]=[mH tc x (aP tc (cP tc y))];rw[e,hx]
   ·show aq W _ (facts tc.ty [1] x (aP tc (cP tc y)));rw[e];exact qN _ _ _ hr1
  |t'::ts,tc'::tcs,hm2,h2=>
   obtain⟨x2,l2,e1,e2,e3,e4⟩:=Pd hΘ (ts:=t'::ts) (tcs:=tc'::tcs) (q+0) hm2 (λj t v ht hv'=>hv (j+1) t v (by simpa using ht) (by grind)) h2;have e:aP tc (cP tc y++l2)=y:=vN tc y l2;have ed:(cP tc y++l2).drop tc.nh=l2:=by rw[<-dp tc y,List.drop_left]
   refine⟨(x,x2),cP tc y++l2,?_,?_,?_,⟨hw,e4⟩⟩
   ·show(cP tc y++l2).length=tc.nh+sC ((tc'::tcs).map PC.d);rw[aaL,dp,e1]
   ·show _=mH tc x (aP tc (cP tc y++l2))::nT ((tc'::tcs).map PC.d) x2 ((cP tc y++l2).drop tc.nh);grind
   ·show aq W _ (facts tc.ty [1] x (aP tc (cP tc y++l2))++qt ((tc'::tcs).map PC.d) x2 ((cP tc y++l2).drop tc.nh) (q+0));rw[e,ed];exact(qN _ _ _ hr1).append e3
theorem PO{w0:World}{S:Nat->Prop}{Y:Type}{val:Y->Value}{facts:Y->List HA}{e:Ending}{w':World}(h:zb w0 (qG S) val facts e w'):(∃y,e=.returned (val y))/\Below w0.heap.size w0 { w' with tape:=w0.tape}:=by obtain⟨y,c',he,henv,hsz,hold,_,_⟩:=h;exact⟨⟨y,he⟩,henv.1,rfl,henv.2,hsz,λk hk=>(hold k hk (by rcases akt S k with h|h<;>omega)).1⟩
theorem zM{W':World}(hl:laidOutB P=true)(hB:Below W.heap.size W W'):∀{ts:List TypeId} {vs:List Value} {ds:List (DataW H)} {ps:List MemPlace},ts.all (λt=>P.readableRec t&&decide (t<P.types.size))=true ->
  DataW.TrodAll enc P W 0 (λ_=>true) true ts vs ds ps->(∀x∈ps,x.block<W.heap.size)->DataW.TrodAll enc P W' 0 (λb=>decide (b<W.heap.size)) true ts vs ds ps
 |[],vs,ds,ps,_,h,_=>by cases vs<;>cases ds<;>simp_all[DataW.TrodAll]
 | t::ts,vs,ds,ps,hts,h,hlt=>by
  obtain⟨v,vs',d,ds',p,q,rfl,rfl,rfl,h1,h2⟩:=trodAll_cons h;simp only[adD,aas,aeM]at hts;exact⟨p,q,Below.trod hl hts.1.1 hts.1.2 h1 hB λx hx=>hlt x (abm _ hx),
   zM hl hB (by grind) h2 λx hx=>hlt x (abr _ hx),rfl⟩
def wF(Θ:Tb)(B:TypeId->DataW Unit->Option (List Value)):List (TypeId×Nat)->List (DataW Unit)->Nat->Option (List Value×Nat)
 |[],[],pos=>some ([],pos)
 | f::fs,d::ds,pos=>bif Nat.beq f.2 pos then(match Θ f.1 with
  |some i=>match B f.1 d,wF Θ B fs ds (pos+i.sz)with
   |some a,some b=>some (a++b.1,b.2)
   |_,_=>none
  |none=>none)else none
 |_,_,_=>none
def F0(Θ:Tb):Nat->TypeId->DataW Unit->Option (List Value)
 |0,_,_=>none
 | n+1,t,d=>match Θ t with
  |none=>none
  | some i=>match i.d,d with
   |.int k,.lit (.int k' m)=>bif zG (.int k) (.int k')then some [.int k' m]else none
   |.bool,.lit (.bool b)=>some [.bool b]
   |.str,.lit (.string s)=>some [.string ⟨s.toArray⟩]
   | .arr m e,.agg ds=>match Θ e with
    |some ie=>match wF Θ (F0 Θ n) ((List.range m).map λj=>(e,j*ie.sz)) ds 0 with
     |some r=>bif Nat.beq r.2 i.sz then some r.1 else none
     |none=>none
    |none=>none
   |.st fs,.agg ds=>match wF Θ (F0 Θ n) fs ds 0 with
    |some r=>bif Nat.beq r.2 i.sz then some r.1 else none
    |none=>none
   |_,_=>none
theorem wE(hΘ:Θ.ok P){t:TypeId}{i:TInf}(h:Θ t=some i):P.cellsOf t=i.sz:=
 nF hΘ (by simp only[zf,h];simp_all)
theorem C1(hΘ:Θ.ok P){B:TypeId->DataW Unit->Option (List Value)}{T:TypeId->List Value->DataW Unit->Prop}(hB:∀t d a cs,B t d=some a->T t cs d->cs=a){cs:List Value} :
  ∀(fs:List (TypeId×Nat)) (ds:List (DataW Unit)) (pos:Nat) (r:List Value×Nat),wF Θ B fs ds pos=some r->(∀(j:Nat) f d,fs[j]?=some f->ds[j]?=some d->T f.1 ((cs.drop f.2).take (P.cellsOf f.1)) d)->pos<=r.2/\(cs.drop pos).take (r.2-pos)=r.1
 |[],[],pos,r,h,_=>by simp only[wF,no]at h;subst h;simp
 |[],_::_,_,_,h,_=>by simp[wF]at h
 |_::_,[],_,_,h,_=>by simp[wF]at h
 | f::fs,d::ds,pos,r,h,hT=>by
  simp only[wF]at h;cases hb:Nat.beq f.2 pos
  ·simp[hb]at h
  ·have hp:=amb hb;simp only[hb,f9]at h;split at h
   ·rename_i i hi;split at h
    ·rename_i a b ha hbr;obtain⟨h1,h2⟩:=C1 hΘ hB fs ds (pos+i.sz) b hbr λj f' d' hf hd=>hT (j+1) f' d' (by simpa using hf) (by simpa using hd)
     have h3:=hB _ _ _ _ ha (hT 0 f d rfl rfl);rw[wE hΘ hi,hp]at h3;simp only[no]at h;subst h;refine⟨by grind,?_⟩;show(cs.drop pos).take (b.2-pos)=a++b.1;rw[show b.2-pos=i.sz+(b.2-(pos+i.sz))by omega,al5,h3,aec,h2]
    ·cases h
   ·cases h
theorem Pj{α:Type}{f:α->Option (DataW Unit×List MemPlace)}{l:List α}{xs:List (DataW Unit×List MemPlace)}(h:l.mapM f=some xs):xs.length=l.length/\∀(j:Nat) a d,l[j]?=some a->(xs.map (·.1))[j]?=some d->∃p,f a=some (d,p):=by obtain⟨h1,h2⟩:=rg h;grind
theorem RO(hΘ:Θ.ok P){en:TypeId×Value->Unit}{held:Bool}:∀(n:Nat) (t:TypeId) (d:DataW Unit) (a cs:List Value) ,F0 Θ n t d=some a->(∃fuel p,DataW.trod en P W 0 (λ_=>true) held fuel t cs=some (d,p))->cs=a
 |0,_,_,_,_,h,_=>by simp[F0]at h
 | n+1,t,d,a,cs,h,⟨fuel,p,ht⟩=>by
  have ih:=RO hΘ (en:=en) (held:=held) n;cases fuel with
  |zero=>simp[DataW.trod]at ht
  |succ fuel=>
  simp only[F0]at h;split at h
  ·cases h
  ·rename_i i hi;have hfit:=(hΘ t i hi).2.1;split at h
   ·rename_i k k' m hd;rw[hd]at hfit;have hu:P.underlying t=some (.int k):=hfit;cases hk:zG (.int k) (.int k')<;>simp only[hk,f9,aax]at h
    ·cases h
    ·simp only[zG,aeM]at hk;subst hk;cases h;unfold DataW.trod at ht;rw[hu]at ht;match cs,ht with
     |[.int k2 z],ht=>
      simp only at ht;split at ht
      ·grind
      ·cases ht
   ·rename_i b hd;rw[hd]at hfit;have hu:P.underlying t=some .bool:=hfit;cases h;unfold DataW.trod at ht;rw[hu]at ht;match cs,ht with
    |[.bool b'],ht=>cases ht;rfl
   ·rename_i s hd;rw[hd]at hfit;have hu:P.underlying t=some .string:=hfit;cases h;unfold DataW.trod at ht;rw[hu]at ht;match cs,ht with
    |[.string z],ht=>
     simp only at ht;split at ht
     ·cases ht;rfl
     ·cases ht
   ·rename_i m e ds hd;rw[hd]at hfit;have hu:P.underlying t=some (.array m e):=hfit;split at h
    ·rename_i ie hie;split at h
     ·rename_i r hr;cases hz:Nat.beq r.2 i.sz<;>simp only[hz,f9,aax]at h
      ·cases h
      ·cases h;have hz:=amb hz;unfold DataW.trod at ht;rw[hu]at ht;simp only at ht;split at ht
       ·rename_i hlen;rw[wE hΘ hi]at hlen;simp only[acr,aaE,DataW.agg.injEq]at ht;obtain⟨xs,hxs,hds,_⟩:=ht;obtain⟨h1,h2⟩:=Pj hxs;obtain⟨_,h3⟩:=C1 hΘ (T:=λt cs d=>∃fuel p,DataW.trod en P W 0 (λ_=>true) held fuel t cs=some (d,p)) (λt d a cs ha hT=>ih t d a cs ha hT) (cs:=cs) _ ds 0 r hr λj f d hf hd=>by
         grind[Option.map_eq_some_iff,List.getElem?_range,wE]
        grind
       ·cases ht
     ·cases h
    ·cases h
   ·rename_i fs ds hd;rw[hd]at hfit;obtain⟨Fd,hu,hfs⟩:=hfit;split at h
    ·rename_i r hr;cases hz:Nat.beq r.2 i.sz<;>simp only[hz,f9,aax]at h
     ·cases h
     ·cases h;have hz:=amb hz;unfold DataW.trod at ht;rw[hu]at ht;simp only at ht;split at ht
      ·rename_i hlen;rw[wE hΘ hi]at hlen;simp only[acr,aaE,DataW.agg.injEq]at ht;obtain⟨xs,hxs,hds,_⟩:=ht;obtain⟨h1,h2⟩:=Pj hxs;obtain⟨_,h3⟩:=C1 hΘ (T:=λt cs d=>∃fuel p,DataW.trod en P W 0 (λ_=>true) held fuel t cs=some (d,p)) (λt d a cs ha hT=>ih t d a cs ha hT) (cs:=cs) fs ds 0 r hr λj f d hf hd=>by
        grind
       grind
      ·cases ht
    ·cases h
   ·cases h
theorem So{w:World}:∀{l:List (String×DataW Unit)} {ps:List MemPlace} {j:Nat} {n:String} {d:DataW Unit},DataW.LaidVars P w l ps->l[j]?=some (n,d) ->
  ∃g t cs fuel p,P.globalNamed n=some g/\(P.globals[g]?).map (·.type)=some t/\w.var? P n=some cs/\DataW.trod (λ_=>()) P w 0 (λ_=>true) false fuel t cs.toList=some (d,p)
 |[],_,_,_,_,_,h=>by simp at h
 |(n,d)::r,ps,0,n',d',hv,h=>by obtain⟨g,t,cs,fuel,p,q,h1,h2,h3,h4,_,_⟩:=hv;grind
 |(n,d)::r,ps,j+1,n',d',hv,h=>by obtain⟨g,t,cs,fuel,p,q,_,_,_,_,hq,_⟩:=hv;exact So hq (by simpa using h)
theorem YC{n:String}{g:Nat}{cs:Array Value}(hg:P.globalNamed n=some g)(h:w.var? P n=some cs):∃ty fz,w.heap[g]?=some (.cells cs ty fz):=by unfold World.var? at h;grind
theorem Br(hΘ:Θ.ok P){l:List (String×DataW Unit)}{j k g:Nat}{t:TypeId}{n:String}{d:DataW Unit}(h:laidMet P l W)(hj:l[j]?=some (n,d))(hg:P.globalNamed n=some g)(ht:(P.globals[g]?).map (·.type)=some t)
  (hb:F0 Θ k t d=some cs):∃ty fz,W.heap[g]?=some (.cells cs.toArray ty fz):=by
 obtain⟨ps,hv,_⟩:=h;obtain⟨g',t',cs',fuel,p,h1,h2,h3,h4⟩:=So hv hj;obtain rfl:=aig (hg.symm.trans h1);obtain rfl:=aig (ht.symm.trans h2);have:=RO hΘ k t d cs cs'.toList hb ⟨fuel,p,h4⟩;obtain⟨ty,fz,h5⟩:=YC hg h3;exact⟨ty,fz,by rw[h5,<-this]⟩
end
end
theorem NL{H:Type}{enc:TypeId×Value->H}{a:Assume}{C:Checked}{os:Os}{f:FuncId}{fn:Func}{s:ChangeSpec}{conds:List PathCond}{rx fresh handsOn again:Bool}{L:World->Array Value->Prop}
  (hX:∀(w w':World) (args:Array Value),w.heap=w'.heap->L w args->L w' args)
  (own:ownKnob C.prog.godebug=none) (started:os.Started) (noInit:C.prog.inits.idxOf? f=none) (hfn:C.prog.funcs[f]?=some fn)
  (witness:∃(w:World) (tape:Tape) (i:Input),w.os=os/\(w.forCall tape i).Shaped C.prog/\i.vars=[]/\Input.okWide C.prog (w.forCall tape i) .any w.heap.size f i /\
   ((s.pre enc C.prog fn conds rx (w.forCall tape i).memory i.args/\L (w.forCall tape i).memory i.args)/\sizedMet enc C.prog fn (OpenSpec.ofChange s) rx (w.forCall tape i).memory i.args)/\a.holds C.prog (lone (Frame.enter C.prog f i.args .normal) [] (w.forCall tape i)))
  (contract:∀(W:World) (base:Nat) (args:Array Value) (ds gs:List (DataW H)) (before:List MemPlace),
   (∀(j:Nat) t v,fn.params[j]?=some t->args[j]?=some v->Value.okWide C.prog W .any base t v) ->
   DataW.Whole enc C.prog fn.params.toList s.vars rx W args.toList ds gs before->L W args->W.ShapedOpen C.prog ->
   (DataW.weightsEach C.prog (fn.params.toList++s.plain.varTypes C.prog) (ds++gs)).all (· <= reachBytes)=true ->
   Calls C.prog f args W λe W'=>∃v,e=.returned v/\s.post enc C.prog fn rx fresh handsOn again W args v W') :
  ReturnsInHanded a C os f .any (λw args=>(s.pre enc C.prog fn conds rx w args/\L w args)/\sizedMet enc C.prog fn (OpenSpec.ofChange s) rx w args) (s.post enc C.prog fn rx fresh handsOn again):=by
 refine returnsInHanded_of_calls own started noInit witness ?_;intro w tape i _ hsh _ hok hpre _;obtain⟨_,_,_,fn',hfn',_,_,_,_,hval⟩:=hok;obtain rfl:fn'=fn:=aig (hfn'.symm.trans hfn);obtain⟨⟨⟨ds,gs,before,hw,_⟩,hx⟩,hz⟩:=hpre;have hw':=DataW.Whole.of_heap (w':=w.forCall tape i) (by rfl) hw;refine(contract (w.forCall tape i) w.heap.size i.args ds gs before hval hw' (hX _ _ _ (by rfl) hx) hsh (hz.weights hw)).mono λe W' ⟨v,he,hp⟩=>?_;subst he;exact ChangeSpec.post_blind hp
end Go.Sm
