/- What the law 'KeepOpens' uses. No condition. -/
import Derived.Test.YtocjmmbldeljnaaGreatDoorKKeepOpensB
import Derived.Test.YtocjmmbldeljnaaGreatDoorKKeepOpensH
import Derived.Test.YtocjmmbldeljnaaGreatDoorKKeepOpensN
import Derived.Test.YtocjmmbldeljnaaGreatDoorKKeepOpensO
import Derived.Test.YtocjmmbldeljnaaGreatDoorKKeepOpensP
set_option linter.unusedSimpArgs false
set_option linter.unusedVariables false
namespace Go.Proofs.YtocjmmbldeljnaaGreatDoor
set_option linter.defProp false
def aeE:=@decide_eq_false
def aeF:=@List.take_add_one
def aeG:=@decide_eq_true
def aeH:=@Bool.false_and
def aeI:=@List.mem_map
def aeJ:=@List.mem_append
def aeK:=@List.pairwise_append
def aeL:=@List.mem_cons
def aeM:=@List.map_map
def aeN:=@Bool.and_false
def aeO:=@List.length_append
def aeP:=@List.length_eq_zero_iff
def aeQ:=@List.map_congr_left
def aeR:=@List.mem_singleton
def aeS:=@List.getElem?_eq_some_iff
open Tryz
set_option linter.unusedVariables false
set_option maxRecDepth 4000
abbrev gm(l:List ByteArray):Prop:=l.Pairwise λa b=>cw a b=true
theorem tC:∀{l m:List ByteArray},gm l->gm m->(∀s,s∈l↔s∈m)->l=m
 |[],[],_,_,_=>rfl
 |[],y::m,_,_,h=>by have:=(h y).2 (by simp);simp at this
 |x::l,[],_,_,h=>by have:=(h x).1 (by simp);simp at this
 |x::l,y::m,hl,hm,h=>by
  have b:=List.pairwise_cons.1 hl
  have c:=List.pairwise_cons.1 hm
  have f:x=y:=by
   rcases aeL.1 ((h x).1 (by simp))with h1|h1
   ·exact h1
   ·rcases aeL.1 ((h y).2 (by simp))with h2|h2
    ·exact h2.symm
    ·have a:=c.1 x h1
     have e:=b.1 y h2
     have:=kY a e
     rw[ki]at this;cases this
  subst f
  congr 1
  refine tC b.2 c.2 λs=>?_
  have d:=h s
  simp only[aeL]at d
  constructor
  ·intro h1
   rcases d.1 (.inr h1)with h2|h2
   ·have a:=b.1 s h1
    rw[h2,ki]at a;cases a
   ·exact h2
  ·intro h1
   rcases d.2 (.inr h1)with h2|h2
   ·have a:=c.1 s h1
    rw[h2,ki]at a;cases a
   ·exact h2
theorem Nl(a b:ByteArray):aM dy a b=cw a b:=by
 unfold aM
 rw[Bool.eq_iff_iff,kh,decide_eq_true_eq]
theorem Mh{a:List (dl×WS)}{C:List (dl×List ByteArray)}{c:au}(f:(a.map (·.1)).Nodup)(e:∀p∈a,RS (eN c) 1 bL p.2.1 p.2.2)(d:(dr (λp:WS=>p.2) a).Perm C)(k:dl):
  ∃w l,((bO k a).map λp:WS=>p.1).getD (sZ)=w/\RS (eN c) 1 bL w l/\(bO k C).getD []=l/\(bO k a).isSome=(bO k C).isSome:=by
 have b:bO k C=(bO k a).map (·.2):=by rw[<-Nr d (by rw[mc];exact f),wX]
 cases hm:bO k a with
 |none=>rw[hm]at b;rw[b];exact⟨_,_,rfl,RS.mg,rfl,rfl⟩
 |some p=>
  rw[hm]at b;rw[b]
  exact⟨p.1,p.2,rfl,e _ (jW hm),rfl,rfl⟩
theorem Pa{R:ao}{H:aF}{a:au}(d:a∈H):∀b o,eN a b o->Rx R H b o:=λb o c=>.inr (List.mem_flatten.2 ⟨a,d,c.1⟩)
theorem wA(g:Nat)(C:List (dl×List ByteArray))(A:List (ByteArray×cZ))(T:au)(h:GI g C A T)(user jg:ByteArray)(vs:Value)(j:List ByteArray)(R:ao)(W:RS R 1 bL vs j)(b1:j.length<=100000)(f:∀p∈C,p.2.length<=1000000):
  Spec prog 134 [pT g,.string user,.string jg,vs] R [T] λu H'=>∃T',H'=[T']/\u=.tuple #[]/\∃l,gm l/\(∀s,s∈l↔s∈(bO (user,jg) C).getD []\/s∈j)/\l.length<=((bO (user,jg) C).getD []).length+j.length/\GI g (if l=[]then C else dQ (user,jg) l C) A T':=by
 have b0:=h.Nw
 have h0:=h
 obtain⟨k,_,rfl,y,MC,vm,M,q,F,m,n,rfl,⟨i,I,H⟩,J,hI,hA,hQ⟩:=h
 obtain⟨r,rfl⟩:∃b,vm=.map (some b):=by obtain⟨b,es,a0,B,_⟩:=J;exact⟨b,B⟩
 have ic:One y:=⟨by obtain⟨b,es,a0,B,_⟩:=i;subst B;rfl⟩
 have is:=W.ay
 obtain⟨Y,w,a7,U,O,_⟩:=Mh i.nd I H (user,jg)
 have i0:=U.ay
 have a3:w.length<=1000000:=by
  rw[<-O]
  cases hm:bO (user,jg) C with
  |none=>simp
  |some x=>exact f _ (jW hm)
 rw[O]
 refine Spec.du (H':=[bl g [y,.map (some r),pT q] 275,F,m,n,k]) (by simp) ?_
 refine Spec.body func134 rfl results134 ntmps134 rfl ?_
 refine .seq<|.sr<|.mo rfl ?_
 refine .aH (qk g r _ _ _) (λv hv=>?_)
 subst hv
 refine .q .not<|.zn<|.bB<|.kn<|.sr<|.mo rfl<|.nc rfl<|.fa rfl<|.lo rfl<|.mo rfl<|.mo rfl ?_
 refine .q .cC ?_
 refine .q (.Nh (v:=Y) i.rx rfl (show _=some (Value.agg (jU (user,jg)).toArray)from rfl) a7) ?_
 refine .bM (od Y w _ (U.mono (Pa (by simp))) a3) (λv1 T1 K=>?_)
 have i1:=K.ay
 refine .mo rfl ?_
 refine .append K W.rx (by omega) (λX Z L=>?_)
 have i2:=L.ay
 refine .ag rfl<|.z<|.mo rfl ?_
 refine .aT (SST.hE (c:=dy) (ok:=λ_=>True) X (w++j) Z _ L (by simp;omega) rfl (λ_ _=>trivial) kZ.so) (λu T3 hu=>?_)
 obtain⟨rfl,d,a2,S,a6⟩:=hu
 have a8:=S.length_eq
 rw[aeO]at a8
 have V:=u5 d (a6.ordered.imp λ{a b} N=>by rw[Nl]at N;exact N)
 have a9:=u4 d
 have Q:∀s,s∈dY d↔s∈w\/s∈j:=λs=>by rw[rS,S.mem_iff,aeJ]
 refine .z<|.mo rfl ?_
 refine .aT (z6 X d T3 _ a2 (by omega)) (λu E D=>?_)
 have i4:=D.ay
 refine .ag rfl<|.z<|.mo rfl<|.q (.kD D) ?_
 refine .q .gtr<|.zn ?_
 refine .cond rfl (λt=>?_) λt=>?_
 have a4:dY d≠[]:=λe=>by rw[e]at t;simp at t
 refine .region<|.mo rfl<|.nc rfl<|.fa rfl<|.lo rfl<|.mo rfl<|.mo rfl ?_
 refine .q .cC ?_
 refine .mo rfl ?_
 refine .update (u:=((u,dY d):WS)) i rfl (show _=some (Value.agg (jU (user,jg)).toArray)from rfl) rfl (λG a1 _=>?_)
 refine .nil<|dc _ .none (.one [1,1,1,1,1,0] _) ?_
 ·refine⟨((g,.cells [y,.map (some r),pT q].toArray 275 (0,0))::(G++(m++n)))++(k++E),by simp[take,bf],rfl,dY d,V,Q,by omega,?_⟩
  rw[if_neg a4]
  refine⟨k++E,_,rfl,_,_,_,M,q,G,m,n,rfl,⟨a1,λp hp=>?_,?_⟩,J,λp hp=>?_,hA,hQ⟩
  ·rcases pi i.nd hp with hp|rfl
   ·exact(I p hp).mono λb o f=>mw f
   ·exact D.eN.mono λb o f=>oe f
  ·exact(sI (nO i.nd)).trans (by rw[o9];exact qt H)
  ·obtain⟨q1,q2,q3⟩:=hI p hp
   exact⟨q1,q2.mono λb o f=>mw f,q3⟩
 have a5:dY d=[]:=by
  rcases Nat.eq_zero_or_pos (dY d).length with h9|h9
  ·exact aeP.1 h9
  ·exfalso
   have:=ba t
   omega
 refine .skip<|dc _ .none (.one [1,1,1,1,1] _) ?_
 ·refine⟨((g,.cells [y,.map (some r),pT q].toArray 275 (0,0))::(F++(m++n)))++k,by simp[take,bf],rfl,dY d,V,Q,by omega,?_⟩
  rw[if_pos a5]
  exact h0
def nI(M:List (ByteArray×GP))(k:ByteArray):cZ:=((bO k M).map (·.2)).getD cZ.zero
theorem LR{M:List (ByteArray×GP)}(a:(M.map (·.1)).Nodup):(M.map (·.1)).map (nI M)=M.map (·.2.2):=by
 rw[aeM]
 refine aeQ λp b=>?_
 have:bO p.1 M=some p.2:=jl a (by exact b)
 simp[nI,this]
abbrev dm(ps:List GP):List cZ:=ps.map (·.2)
def iR(L:List cZ):List (ByteArray×cZ):=L.map λt=>(t.text,t)
theorem Mq{A:List (ByteArray×cZ)}(h:∀p∈A,p.1=p.2.text):iR (A.map (·.2))=A:=by
 unfold iR
 rw[aeM]
 conv=>rhs;rw[<-List.map_id A]
 exact aeQ λp a=>by rw[Function.comp, <-h p a];rfl
theorem Mk(g:Nat)(C:List (dl×List ByteArray))(A:List (ByteArray×cZ))(T:au)(h:GI g C A T)(hl:A.length<=1000000)(R:ao)(F:∀p∈T,R p.1 p.2):
  Spec prog 79 [pT g] R [] λv H'=>∃T',H'=[T']/\∃ps To Ti,T'=To++Ti/\OS 136 9 dZ v ps To/\(∀p∈ps,jM (eN Ti) p)/\(iR (dm ps)).Perm A/\ps.Pairwise (λp q=>cw q.2.text p.2.text=false):=by
 have b2:=h.keys
 obtain⟨L,_,rfl,H,MC,vm,M,q,Tc,Tm,Tq,rfl,⟨a6,b8,hC⟩,j,hI,hA,hQ⟩:=h
 obtain⟨f,rfl⟩:∃b,vm=.map (some b):=by obtain⟨b,es,a5,r,_⟩:=j;exact⟨b,r⟩
 have ic:One H:=⟨by obtain⟨b,es,a5,r,_⟩:=a6;subst r;rfl⟩
 have pq:PC R (pT g) [H,.map (some f),pT q]:=PC.of (E:=275) (fr:=(0,0)) (F (g,.cells [H,.map (some f),pT q].toArray 275 (0,0)) (by simp))
 have rm:RM R (λs:ByteArray=>.string s) (λp:GP=>.agg (dZ p).toArray) (.map (some f)) M:=j.rm λp hp=>F p (by simp[hp])
 have hT:∀b o,eN L b o->R b o:=λb o d=>F (b,o) (by have:(b,o)∈L:=d.1;simp[this])
 have Q:(M.map (·.2.2)).Perm (A.map (·.2)):=by
  have:=hA.map (·.2)
  unfold dr at this
  rw[aeM]at this
  exact this
 have b9:M.length=A.length:=by simpa using Q.length_eq
 refine Spec.du (H':=[[],[]]) (by simp) ?_
 refine Spec.body func79 rfl results79 ntmps79 rfl ?_
 refine .sr<|.ag rfl<|.zs<|.sr<|.mo rfl ?_
 refine .aH (qk g f _ _ _) (λv G=>?_)
 subst G
 refine .q .not<|.zn<|.bB<|.kn<|.sr<|.ag rfl<|.zs<|.sr<|.mo rfl<|.nc rfl<|.fa rfl<|.lo rfl ?_
 refine .range rm (λ_ _=>.inl) rfl (λit a3 b1=>?_)
 refine .zn<|.block ?_
 refine .loop (X:=List GP×List ByteArray×Value×au×au×au) (λy=>(∀p∈y.1,jM (eN y.2.2.2.2.1) p)/\y.2.1.Nodup/\(dm y.1++y.2.1.map (nI M)).Perm (A.map (·.2))/\OS 136 9 dZ y.2.2.1 y.1 y.2.2.2.1/\It R (λs:ByteArray=>.string s) (λp:GP=>.agg (dZ p).toArray) (.map (some f)) M it y.2.1 y.2.2.2.2.2) (λy=>[(0,pT g),(3,y.2.2.1),(13,it)]) (λy=>[y.2.2.2.2.2,y.2.2.2.1,y.2.2.2.2.1]) (λy=>y.2.1.length) ([],M.map (·.1),sZ,[],[],a3) ⟨by simp,j.nd,by rw[LR j.nd];exact Q,OS.nil,b1⟩ kE.c.c.c rH ?_
 rintro⟨ps,b6,vo,To,n,Ti⟩ ⟨m,D,i,l,Y⟩
 simp only at m D i l Y⊢
 have i2:=l.ay
 have a1:=i.length_eq
 simp only[aeO,List.length_map]at a1
 refine .sr ?_
 refine .pj Y (λ_ _=>.inl) rfl (λb rest a4 hf ht=>?_)
 refine .q .extract<|.zs ?_
 refine .cond rfl (λw=>?_) λw=>?_
 obtain⟨k,⟨I,e⟩,hk,a0,Z⟩:=ht w
 obtain⟨_,V,a8⟩:=hI (k,(I,e)) (jW a0)
 have i3:bI (dZ (I,e)):=⟨V.bU⟩
 have b0:nI M k=e:=by simp[nI,a0]
 have W:=filter_one D hk
 refine .kn<|.block<|.sr ?_
 refine .q (.entry Z (λ_ _=>.inl) rfl) ?_
 refine .q .extract ?_
 refine .cn (λb5=>?_)
 refine .bZ rfl rfl<|.zn<|.region<|.mo rfl<|.q (.bj rfl) ?_
 refine .bM (wB I e _ (V.mono λb o d=>.inl (hT b o d)) a8) (λv T1 G=>?_)
 obtain⟨J,rfl,B⟩:=G
 have i4:bI (dZ (J,e)):=⟨B.bU⟩
 refine .hY (λb7=>?_)
 refine .append l (RS.lits (xs:=[((J,e):GP)]) rfl (by simp[dZ]) (by have:=B.bU;simpa using this)) (by simp;omega) (λv5 T5 a7=>?_)
 refine .ag rfl<|.nil<|bz ?_
 ·refine br (ps++[(J,e)],b6.filter λk'=>decide (k'≠k),v5,T5,T1++n,a4) ⟨λp hp=>?_,D.sublist List.filter_sublist,?_,a7,Z.it⟩ ?_ kE.c.c.c ((bG [3,3,1,2]).trans (bu.cu (by simp[take,bf])))
  ·simp only
   rcases aeJ.1 hp with hp|hp
   ·exact(m p hp).mono λb o d=>oe d
   ·simp only[aeR]at hp;subst hp
    exact B.mono λb o d=>mw d
  ·simp only
   refine List.Perm.trans ?_ i
   rw[dm,List.map_append,List.append_assoc]
   refine List.Perm.append_left _ ?_
   have:=(W.map (nI M)).symm
   rw[List.map_cons,b0]at this
   exact this
  ·have:=W.length_eq
   simp only[List.length_cons]at this
   simp only;omega
 have b4:=hf w
 subst b4
 simp only[List.map_nil,List.append_nil]at i
 have a9:eR prog 177 [] R (λp:GP=>Value.agg (dZ p).toArray) o0 rB:=λx y hx hy R2 _=>Mj x y R2 hx hy
 refine .exit<|bk<|bw<|bq<|aG<|.sr<|.mo rfl ?_
 refine .aT (SGC.hE (caps:=[]) vo ps To _ l (by simp at a1;omega) a9 (λp hp=>(m p hp).bU) Mi) (λu K hu=>?_)
 obtain⟨rfl,ys,S,a2,b3⟩:=hu
 have i5:=S.ay
 refine .z<|.mo rfl<|.az rfl ?_
 refine .ret (aO _ (.one (.tmp rfl)) ((bG [1,1]).trans (bu.cu (H':=[K++n]) (by simp[take,bf]))) ?_)
 ·refine⟨_,rfl,ys,K,n,rfl,S,λp hp=>m p (a2.mem_iff.1 hp),?_,b3.ordered.imp λ{a b} U=>by rw[qw]at U;exact U⟩
  have N:=((a2.map (·.2)).trans i).map λt:cZ=>(t.text,t)
  have O:=Mq b2
  unfold iR at O
  rw[O]at N
  exact N
def nL(MC:List (dl×WS))(k:dl):dl×List ByteArray:=(k,((bO k MC).map (·.2)).getD [])
theorem Mg{a:List (dl×WS)}(b:(a.map (·.1)).Nodup):(a.map (·.1)).map (nL a)=dr (λp:WS=>p.2) a:=by
 unfold dr
 rw[aeM]
 refine aeQ λp c=>?_
 have:bO p.1 a=some p.2:=jl b (by exact c)
 simp[nL,this]
theorem wj{κ:Type} [DecidableEq κ]{k:κ}:∀{l:List κ},l.Nodup->k∈l->l.Perm (k::l.filter λk'=>decide (k'≠k))
 |[],_,h=>by cases h
 |x::l,hn,h=>by
  have b:=List.nodup_cons.1 hn
  by_cases a:x=k
  ·subst a
   rw[List.filter_cons_of_neg (by simp),List.filter_eq_self.2 λy d=>by
    have c:y≠x:=λe=>b.1 (by rw[<-e];exact d)
    exact aeG c]
  ·rw[List.filter_cons_of_pos (by simp[a])]
   exact((wj b.2 ((aeL.1 h).resolve_left λe=>a e.symm)).cons x).trans (.swap _ _ _)
theorem Ml(g:Nat)(C:List (dl×List ByteArray))(A:List (ByteArray×cZ))(T:au)(h:GI g C A T)(hl:C.length<=1000000)(a:∀p∈C,p.2.length<=1000000)(R:ao)(H:∀p∈T,R p.1 p.2):
  Spec prog 76 [pT g] R [] λv H'=>∃T',H'=[T']/\∃ps To Ti,T'=To++Ti/\OS 128 3 gd v ps To/\(∀p∈ps,lm (eN Ti) p)/\(ps.map (·.2)).Perm C/\ps.Pairwise (λp q=>aM mQ q p=false):=by
 obtain⟨K,_,rfl,j,e,vm,M,q,Tc,Tm,Tq,rfl,⟨l,a3,B⟩,hM,hI,hA,hQ⟩:=h
 obtain⟨s,rfl⟩:∃b,vm=.map (some b):=by obtain⟨b,es,a2,t,_⟩:=hM;exact⟨b,t⟩
 have ic:One j:=⟨by obtain⟨b,es,a2,t,_⟩:=l;subst t;rfl⟩
 have pq:PC R (pT g) [j,.map (some s),pT q]:=PC.of (E:=275) (fr:=(0,0)) (H (g,.cells [j,.map (some s),pT q].toArray 275 (0,0)) (by simp))
 have rm:RM R (λk:dl=>.agg (jU k).toArray) (λp:WS=>p.1) j e:=l.rm λp hp=>H p (by simp[hp])
 have hT:∀b o,eN K b o->R b o:=λb o a=>H (b,o) (by have:(b,o)∈K:=a.1;simp[this])
 have b3:e.length=C.length:=by simpa[sH]using B.length_eq
 refine Spec.du (H':=[[],[]]) (by simp) ?_
 refine Spec.body func76 rfl results76 ntmps76 rfl ?_
 refine .sr<|.ag rfl<|.zs<|.sr<|.mo rfl ?_
 refine .aH (qk g s _ _ _) (λv hv=>?_)
 subst hv
 refine .q .not<|.zn<|.bB<|.kn<|.sr<|.ag rfl<|.zs<|.sr<|.mo rfl<|.nc rfl<|.fa rfl<|.lo rfl ?_
 refine .range rm (λ_ _=>.inl) rfl (λY a0 a7=>?_)
 refine .zn<|.block ?_
 refine .loop (X:=List NP×List dl×Value×au×au×au) (λy=>(∀p∈y.1,lm (eN y.2.2.2.2.1) p)/\y.2.1.Nodup/\(y.1.map (·.2)++y.2.1.map (nL e)).Perm C/\OS 128 3 gd y.2.2.1 y.1 y.2.2.2.1/\It R (λk:dl=>.agg (jU k).toArray) (λp:WS=>p.1) j e Y y.2.1 y.2.2.2.2.2) (λy=>[(0,pT g),(3,y.2.2.1),(13,Y)]) (λy=>[y.2.2.2.2.2,y.2.2.2.1,y.2.2.2.2.1]) (λy=>y.2.1.length) ([],e.map (·.1),sZ,[],[],a0) ⟨by simp,l.nd,by rw[Mg l.nd];exact B,OS.nil,a7⟩ kE.c.c.c rH ?_
 rintro⟨ps,b1,vo,To,r,Ti⟩ ⟨n,G,i,m,S⟩
 simp only at n G i m S⊢
 have i2:=m.ay
 have V:=i.length_eq
 simp only[aeO,List.length_map]at V
 refine .sr ?_
 refine .pj S (λ_ _=>.inl) rfl (λb rest a1 hf ht=>?_)
 refine .q .extract<|.zs ?_
 refine .cond rfl (λw=>?_) λw=>?_
 obtain⟨k,⟨Z,d⟩,hk,F,U⟩:=ht w
 have D:=a3 (k,(Z,d)) (jW F)
 simp only at D
 have i3:=D.ay
 have a6:nL e k=(k,d):=by simp[nL,F]
 have Q:=wj G hk
 have a8:d.length<=1000000:=a (k,d) (B.mem_iff.1 (o8 (f:=λp:WS=>p.2) (jW F)))
 refine .kn<|.block<|.sr ?_
 refine .q (.entry U (λ_ _=>.inl) rfl) ?_
 refine .q .extract<|.q .extract ?_
 refine .cn (λb4=>?_)
 refine .bZ rfl rfl<|.az rfl<|.cq [9] mixed ?_
 refine .tO 0 rfl .move<|.tO 1 rfl (.fieldAddr rfl)<|.tO 2 rfl (.bo rfl)<|.tO 3 rfl (.fieldAddr rfl)<|.tO 4 rfl (.bo rfl)<|.tO 5 rfl .move ?_
 refine .sT 6 rfl ?_
 refine .bM (od Z d _ (D.mono λb o a=>.inl (hT b o a)) a8) (λw1 I L=>?_)
 obtain⟨p1,k1,rfl,_⟩:=L.shape
 have O:lm (eN I) ((_,(k,d)):NP):=L.eN
 refine .nil (Next.sub ?_)
 refine .tO 7 rfl .cC ?_
 refine .sT 8 rfl ?_
 refine .hY (λb2=>?_)
 refine .nil (Next.sub ?_)
 refine .sT 9 rfl ?_
 refine .append m (RS.lits (xs:=[((_,(k,d)):NP)]) rfl (by simp[gd]) (by have:=O.bU;simpa using this)) (by simp;omega) (λv5 T5 a4=>?_)
 refine .nil (Next.mod rfl ?_)
 refine .tK 10 rfl .assign ?_
 refine RA.nil (by kernel_rfl) ?_
 refine bz ?_
 ·refine br (ps++[(_,(k,d))],b1.filter λk'=>decide (k'≠k),v5,T5,I++r,a1) ⟨λp hp=>?_,G.sublist List.filter_sublist,?_,a4,U.it⟩ ?_ kE.c.c.c ((bG [3,3,1,2]).trans (bu.cu (by simp[take,bf])))
  ·simp only
   rcases aeJ.1 hp with hp|hp
   ·exact(n p hp).mono λb o a=>oe a
   ·simp only[aeR]at hp;subst hp
    exact O.mono λb o a=>mw a
  ·simp only
   refine List.Perm.trans ?_ i
   rw[List.map_append,List.append_assoc]
   refine List.Perm.append_left _ ?_
   have:=(Q.map (nL e)).symm
   rw[List.map_cons,a6]at this
   exact this
  ·have:=Q.length_eq
   simp only[List.length_cons]at this
   simp only;omega
 have b0:=hf w
 subst b0
 simp only[List.map_nil,List.append_nil]at i
 have a5:eR prog 174 [] R (λp:NP=>Value.agg (gd p).toArray) mQ rC:=λx y hx hy R2 _=>uA x y R2 hx hy
 refine .exit<|bk<|bw<|bq<|aG<|.sr<|.mo rfl ?_
 refine .aT (SGN.hE (caps:=[]) vo ps To _ m (by simp at V;omega) a5 (λp hp=>(n p hp).bU) Nv.so) (λu J hu=>?_)
 obtain⟨rfl,ys,N,W,a9⟩:=hu
 have i5:=N.ay
 refine .z<|.mo rfl<|.az rfl ?_
 refine .ret (aO _ (.one (.tmp rfl)) ((bG [1,1]).trans (bu.cu (H':=[J++r]) (by simp[take,bf]))) ?_)
 ·exact⟨_,rfl,ys,J,r,rfl,N,λp hp=>n p (W.mem_iff.1 hp),(W.map (·.2)).trans i,a9.ordered⟩
theorem pC{α:Type}{r:α->α->Prop}(k:∀x y z,r x y->r y z->r x z){l:List α}{i:Nat}{x:α}(h:(l.take i).Pairwise r)(d:l[i]? =some x)(j:∀y,0<i->l[i-1]? =some y->r y x):(l.take (i+1)).Pairwise r:=by
 have e:l.take (i+1)=l.take i++[x]:=by rw[aeF,d];rfl
 rw[e,aeK]
 refine⟨h,List.pairwise_singleton _ _,λa ha b c=>?_⟩
 rw[aeR]at c
 subst c
 have m:=(aeS.1 d).1
 cases i with
 |zero=>simp at ha
 |succ i=>
  obtain⟨y,f⟩:∃y,l[i]? =some y:=⟨_,bd (by omega)⟩
  have g:=j y (by omega) f
  rw[aeF,f]at ha h
  rcases aeJ.1 ha with ha|ha
  ·exact k _ _ _ ((aeK.1 h).2.2 a ha y (by simp)) g
  ·simp at ha;subst ha;exact g
theorem tj{α:Type}{r:α->α->Prop}{l:List α}{i:Nat}{x y:α}(h:l.Pairwise r)(e:l[i]? =some x)(f:l[i-1]? =some y)(g:0<i):r y x:=by
 obtain⟨c,a⟩:=aeS.1 e
 obtain⟨d,b⟩:=aeS.1 f
 have:=List.pairwise_iff_getElem.1 h (i-1) i d c (by omega)
 rw[a,b]at this
 exact this
theorem yR:∀x y z:dl×List ByteArray,gG x.1 y.1<0->gG y.1 z.1<0->gG x.1 z.1<0:=λx y z a b=>rn.tl _ _ _ a (Int.le_of_lt b)
def jA(cs:List (dl×List ByteArray)):Prop:=(∀p∈cs,p.2≠[]/\gm p.2)/\cs.Pairwise (λa b=>gG a.1 b.1<0)
def lp(ts:List cZ):Prop:=ts.Pairwise (λa b=>cw a.text b.text=true)/\ts.length<=4096
instance(cs:List (dl×List ByteArray)):Decidable (jA cs):=by unfold jA;infer_instance
instance(ts:List cZ):Decidable (lp ts):=by unfold lp;infer_instance
def eE(cs:List (dl×List ByteArray))(ts:List cZ):Bool:=decide (jA cs)&&decide (lp ts)
theorem xX(v:Value)(l:List ByteArray)(R:ao)(h:RS R 1 bL v l):Spec prog 300 [v] R [] λu H'=>u=.bool (decide (gm l))/\H'=[]:=by
 have B:=h.le
 have C:=h.ay
 refine Spec.body func300 rfl results300 ntmps300 rfl ?_
 refine .sr<|.ag rfl<|.zs<|.sr<|.az rfl<|.block ?_
 refine .loop (X:=Nat) (λi=>1<=i/\(i<=l.length\/i=1)/\gm (l.take i)) (λi=>[(0,v),(3,iN i)]) (λ_=>[]) (λi=>l.length-i) 1 ⟨Nat.le_refl _,.inr rfl,by
  match l with
  |[]=>exact List.Pairwise.nil
  |x::l=>simp⟩ kE.c.c rH ?_
 rintro i ⟨w,A,f⟩
 refine .seq<|.sr<|.mo rfl<|.mo rfl<|.q (.cv h) ?_
 refine .q .lss<|.zn ?_
 refine .cond rfl (λd=>?_) λd=>?_
 have o:i<l.length:=fg d
 obtain⟨x,g⟩:=dM o
 obtain⟨y,j⟩:∃x,l[i-1]? =some x:=⟨_,bd (by omega)⟩
 refine .kn<|.seq<|.block<|.seq ?_
 refine .kG mixed (by kernel_rfl) ?_
 refine .mo rfl<|.mo rfl ?_
 refine .ia (i-1) .sub ?_
 refine .cB (i-1) h j (λD=>?_)
 refine .lo rfl<|.mo rfl<|.mo rfl ?_
 refine .cB i h g (λE=>?_)
 refine .lo rfl<|.q .qj<|.zn ?_
 refine .cond rfl (λe=>?_) λe=>?_
 have m:decide (gm l)=false:=aeE λt=>by
  have s:=tj (r:=λa b=>cw a b=true) t g j (by omega)
  have k:cw y x=false:=by simpa using e
  rw[s]at k;cases k
 refine .sr<|.az rfl ?_
 refine .ret (bi (aR (cK (bi (aR (aW rfl ?_))))))
 ·first
   |exact⟨by rw[m],rfl⟩
   |exact⟨by rw[n],rfl⟩
 refine .skip<|bz<|aG<|.region<|.mo rfl ?_
 refine .ia (i+1) .add ?_
 refine .ag rfl<|.nil ?_
 ·exact br (i+1) ⟨by omega,.inl o,pC (r:=λa b=>cw a b=true) (λx y z d e=>kY d e) f g λF _ p=>by
   rw[j]at p;cases p
   simpa using e⟩ (by omega) kE.c.c rH
 have n:decide (gm l)=true:=by
  rw[List.take_of_length_le (by have:=ba d;omega)]at f
  exact aeG f
 refine .exit<|bk<|bw<|bq<|aG<|.sr<|.az rfl ?_
 refine .ret (aW rfl ?_)
 ·first
   |exact⟨by rw[m],rfl⟩
   |exact⟨by rw[n],rfl⟩
abbrev cX(ps:List NP):List (dl×List ByteArray):=ps.map (·.2)
theorem Mt(v vt:Value)(ps:List NP)(qs:List GP)(R:ao)(h:RS R 3 gd v ps)(hc:∀p∈ps,lm R p)(hf:∀p∈ps,p.2.2.length<=100000)(h':RS R 9 dZ vt qs)(b9:∀p∈qs,jM R p)(c3:∀p∈qs,p.2.hZ):
    Spec prog 206 [v,vt] R [] λu H'=>∃T,H'=[T]/\((eE (cX ps) (dm qs)=true/\∃g,u=.tuple [pT g,.int .i64 0].toArray/\GI g (cX ps) (iR (dm qs)) T)\/(eE (cX ps) (dm qs)=false/\u=.tuple [.pointer none,.int .i64 4].toArray)):=by
  have d2:=h.le
  have d3:=h'.le
  have c9:(cX ps).length=ps.length:=by simp
  have d0:(dm qs).length=qs.length:=by simp
  obtain⟨pv,c1,rfl⟩:=h.val
  obtain⟨pt,b7,rfl⟩:=h'.val
  refine Spec.body func206 rfl results206 ntmps206 rfl ?_
  refine .sr<|.ag rfl<|.ag rfl<|.z ?_
  refine .bM (wF _) (λu T0 D=>?_)
  obtain⟨g,rfl,c0⟩:=D
  refine .ag rfl<|.zs<|.sr<|.mo rfl<|.q (.cv h) ?_
  refine .mo rfl<|.zn<|.block ?_
  refine .loop (X:=Nat×au) (λy=>y.1<=ps.length/\((∀p∈(cX ps).take y.1,p.2≠[]/\gm p.2)/\((cX ps).take y.1).Pairwise λa b=>gG a.1 b.1<0)/\GI g ((cX ps).take y.1) [] y.2) (λy=>[(0,.slice pv ps.length c1),(1,.slice pt qs.length b7),(6,pT g),(12,.slice pv ps.length c1),(13,iN ps.length),(14,iN y.1)]) (λy=>[y.2]) (λy=>ps.length-y.1) (0,T0) ⟨Nat.zero_le _,⟨by simp,by simp⟩,c0⟩ kE.c.c.c.c.c.c rH ?_
  clear c0
  rintro⟨i,T⟩ ⟨hi,⟨a4,a5⟩,A⟩
  simp only at hi a4 a5 A⊢
  refine .sr<|.q .lss<|.zs ?_
  refine .cond rfl (λV=>?_) λV=>?_
  have W:i<ps.length:=fg V
  obtain⟨⟨E,d,f⟩,Q⟩:=dM W
  have cz:=hc _ (bD Q)
  have fz:=hf _ (bD Q)
  have rz:RS R 1 bL E f:=cz
  have iz:bI (gd (E,d,f)):=⟨cz.bU⟩
  have w:(cX ps)[i]? =some (d,f):=by simp[Q]
  have iw:One E:=rz.ay
  refine .kn<|.seq<|.block<|.sr<|.mo rfl ?_
  refine .cB i h Q (λd4=>?_)
  refine .q (.bj rfl) ?_
  refine .cn (λb8=>?_)
  refine .ag rfl<|.bZ rfl rfl<|.zs<|.seq ?_
  refine .cM 9 mixed (by kernel_rfl) ?_
  conv=>arg 6;dsimp only[List.take]
  refine .mo rfl<|.q .gtr<|.mo rfl ?_
  refine .split (t:=21) rfl (λo=>?_) (λo=>?_)
  have c4:0<i:=by have:=bp o;omega
  obtain⟨⟨wy,I,ly⟩,O⟩:∃z,ps[i-1]? =some z:=⟨_,bd (by omega)⟩
  have cy:=hc _ (bD O)
  have iy:bI (gd (wy,I,ly)):=⟨cy.bU⟩
  have a1:(cX ps)[i-1]? =some (I,ly):=by simp[O]
  have py:=h.pc O
  refine .gT o<|.mo rfl<|.gT o<|.mo rfl<|.gT o ?_
  refine .ia (i-1) .sub ?_
  refine .gT o<|.q (.cB (i-1) h O rfl rfl rfl) ?_
  refine .gT o<|.q (.bj rfl)<|.gT o<|.q (.bj rfl)<|.nil<|.gT o ?_
  refine .aH (uA (wy,I,ly) (E,d,f) _ iy.h iz.h) (λu D=>?_)
  subst D
  refine .gT o<|.q .geq<|.q (.bA o) ?_
  refine .mo rfl ?_
  refine .split (t:=31) rfl (λF=>?_) (λF=>?_)
  have B:eE (cX ps) (dm qs)=false:=by
    unfold eE
    rw[aeE (p:=jA (cX ps)),aeH]
    intro n
    have C:gG I d<0:=tj (r:=λa b:dl×List ByteArray=>gG a.1 b.1<0) n.2 w a1 c4
    have l:=bp F
    have e7:mQ (wy,I,ly) (E,d,f)=gG I d:=rfl
    omega
  refine .gF F<|.gF F<|.gF F<|.gF F<|.q (.bA F) ?_
  refine .mo rfl<|.gX<|.gX<|.gX<|.gX<|.q .dh<|.zn<|.cW ?_
  skip
  have B:eE (cX ps) (dm qs)=false:=by
    first
      |assumption
      |(unfold eE
        rw[aeE (p:=jA (cX ps)),aeH]
        intro n
        have C:=(n.1 (d,f) (bD w)).2
        have l:decide (gm f)=false:=by simpa using G
        rw[aeG C]at l;cases l)
  refine .sr<|.ag rfl<|.az rfl ?_
  refine .ret (aR (bi (aR (cK (bi (aR (aO _ (.two (.tmp rfl) (.tmp rfl)) (.one [0] _) ?_)))))))
  ·first
      |exact⟨_,rfl,.inl ⟨M,g,rfl,by simpa[take]using A⟩⟩
      |exact⟨_,rfl,.inr ⟨B,rfl⟩⟩
  refine .gT F<|.fa rfl<|.gT F<|.lo rfl<|.gT F<|.q (.cv rz) ?_
  refine .gT F<|.q .cG<|.q (.bg F) ?_
  refine .mo rfl ?_
  refine .split (t:=37) rfl (λk=>?_) (λk=>?_)
  have B:eE (cX ps) (dm qs)=false:=by
    unfold eE
    rw[aeE (p:=jA (cX ps)),aeH]
    intro n
    have C:=(n.1 (d,f) (bD w)).1
    have l:((f.length:Nat):Int)=0:=by simpa using k
    exact C (aeP.1 (show f.length=0 by omega))
  refine .gF k<|.gF k<|.gF k<|.gF k<|.q (.bA k) ?_
  refine .zn<|.cW ?_
  skip
  have B:eE (cX ps) (dm qs)=false:=by
    first
      |assumption
      |(unfold eE
        rw[aeE (p:=jA (cX ps)),aeH]
        intro n
        have C:=(n.1 (d,f) (bD w)).2
        have l:decide (gm f)=false:=by simpa using G
        rw[aeG C]at l;cases l)
  refine .sr<|.ag rfl<|.az rfl ?_
  refine .ret (aR (bi (aR (cK (bi (aR (aO _ (.two (.tmp rfl) (.tmp rfl)) (.one [0] _) ?_)))))))
  ·first
      |exact⟨_,rfl,.inl ⟨M,g,rfl,by simpa[take]using A⟩⟩
      |exact⟨_,rfl,.inr ⟨B,rfl⟩⟩
  refine .gT k<|.fa rfl<|.gT k<|.lo rfl<|.gT k ?_
  refine .aH (xX E f _ rz.rx) (λu D=>?_)
  subst D
  refine .gT k<|.q .not<|.q (.bg k) ?_
  refine .zn ?_
  refine .cond rfl (λG=>?_) λG=>?_
  skip
  have B:eE (cX ps) (dm qs)=false:=by
    first
      |assumption
      |(unfold eE
        rw[aeE (p:=jA (cX ps)),aeH]
        intro n
        have C:=(n.1 (d,f) (bD w)).2
        have l:decide (gm f)=false:=by simpa using G
        rw[aeG C]at l;cases l)
  refine .sr<|.ag rfl<|.az rfl ?_
  refine .ret (aR (bi (aR (cK (bi (aR (aO _ (.two (.tmp rfl) (.tmp rfl)) (.one [0] _) ?_)))))))
  ·first
      |exact⟨_,rfl,.inl ⟨M,g,rfl,by simpa[take]using A⟩⟩
      |exact⟨_,rfl,.inr ⟨B,rfl⟩⟩
  have a2:f≠[]:=λe=>by rw[e]at k;simp at k
  have a7:gm f:=by simpa using G
  have b4:∀p∈(cX ps).take (i+1),p.2≠[]/\gm p.2:=λp hp=>by
    rw[aeF,w]at hp
    rcases aeJ.1 hp with hp|hp
    ·exact a4 p hp
    ·simp at hp;subst hp;exact⟨a2,a7⟩
  have Z:((cX ps).take (i+1)).Pairwise λa b=>gG a.1 b.1<0:=pC (r:=λa b:dl×List ByteArray=>gG a.1 b.1<0) yR a5 w λy h0 K=>by
    first
      |(exfalso;have:=ba o;omega)
      |(rw[a1]at K;cases K
        have l:=ba F
        have e7:mQ (wy,I,ly) (E,d,f)=gG I d:=rfl
        show gG I d<0
        omega)
  have a3:d∉((cX ps).take i).map (·.1):=λY=>by
    rw[aeF,w]at Z
    obtain⟨p,hp,N⟩:=aeI.1 Y
    have:=(aeK.1 Z).2.2 p hp (d,f) (by simp)
    simp only at this
    rw[N]at this
    have e0:=rn.refl d
    omega
  refine .kn<|.region<|.mo rfl<|.fa rfl<|.lo rfl<|.fa rfl<|.lo rfl<|.fa rfl<|.lo rfl ?_
  refine .aT (wA g _ [] T A d.1 d.2 E f _ rz fz (λp hp=>by
    have b5:=List.mem_of_mem_take hp
    obtain⟨q,hq,rfl⟩:=aeI.1 b5
    have:=hf q hq
    omega)) (λu U D=>?_)
  obtain⟨rfl,l2,b0,b2,_,J⟩:=D
  have b3:bO (d.1,d.2) ((cX ps).take i)=none:=jG.2 a3
  have b1:l2=f:=tC b0 a7 λs=>by rw[b2,b3];simp
  subst b1
  rw[if_neg a2,show dQ (d.1,d.2) l2 ((cX ps).take i)=(cX ps).take (i+1) by
    unfold dQ
    rw[kC a3,aeF,w]
    rfl]at J
  refine .nil<|bz<|aG<|.region ?_
  refine .ia (i+1) .add ?_
  refine .mo rfl<|.nil ?_
  ·exact br (i+1,U) ⟨W,⟨b4,Z⟩,J⟩ (by simp only;omega) kE.c.c.c.c.c.c (bG [1])
  refine .gF o<|.gF o<|.gF o<|.gF o<|.gF o<|.gF o<|.nil<|.gF o<|.gF o<|.q (.bg o) ?_
  refine .mo rfl<|.gt rfl ?_
  refine .fa rfl<|.gt rfl ?_
  refine .lo rfl<|.gt rfl ?_
  refine .q (.cv rz) ?_
  refine .gt rfl ?_
  refine .q .cG<|.q .cd<|.mo rfl ?_
  refine .split (t:=37) rfl (λk=>?_) (λk=>?_)
  have B:eE (cX ps) (dm qs)=false:=by
    unfold eE
    rw[aeE (p:=jA (cX ps)),aeH]
    intro n
    have C:=(n.1 (d,f) (bD w)).1
    have l:((f.length:Nat):Int)=0:=by simpa using k
    exact C (aeP.1 (show f.length=0 by omega))
  refine .gF k<|.gF k<|.gF k<|.gF k<|.q (.bA k) ?_
  refine .zn<|.cW ?_
  skip
  have B:eE (cX ps) (dm qs)=false:=by
    first
      |assumption
      |(unfold eE
        rw[aeE (p:=jA (cX ps)),aeH]
        intro n
        have C:=(n.1 (d,f) (bD w)).2
        have l:decide (gm f)=false:=by simpa using G
        rw[aeG C]at l;cases l)
  refine .sr<|.ag rfl<|.az rfl ?_
  refine .ret (aR (bi (aR (cK (bi (aR (aO _ (.two (.tmp rfl) (.tmp rfl)) (.one [0] _) ?_)))))))
  ·first
      |exact⟨_,rfl,.inl ⟨M,g,rfl,by simpa[take]using A⟩⟩
      |exact⟨_,rfl,.inr ⟨B,rfl⟩⟩
  refine .gT k<|.fa rfl<|.gT k<|.lo rfl<|.gT k ?_
  refine .aH (xX E f _ rz.rx) (λu D=>?_)
  subst D
  refine .gT k<|.q .not<|.q (.bg k) ?_
  refine .zn ?_
  refine .cond rfl (λG=>?_) λG=>?_
  skip
  have B:eE (cX ps) (dm qs)=false:=by
    first
      |assumption
      |(unfold eE
        rw[aeE (p:=jA (cX ps)),aeH]
        intro n
        have C:=(n.1 (d,f) (bD w)).2
        have l:decide (gm f)=false:=by simpa using G
        rw[aeG C]at l;cases l)
  refine .sr<|.ag rfl<|.az rfl ?_
  refine .ret (aR (bi (aR (cK (bi (aR (aO _ (.two (.tmp rfl) (.tmp rfl)) (.one [0] _) ?_)))))))
  ·first
      |exact⟨_,rfl,.inl ⟨M,g,rfl,by simpa[take]using A⟩⟩
      |exact⟨_,rfl,.inr ⟨B,rfl⟩⟩
  have a2:f≠[]:=λe=>by rw[e]at k;simp at k
  have a7:gm f:=by simpa using G
  have b4:∀p∈(cX ps).take (i+1),p.2≠[]/\gm p.2:=λp hp=>by
    rw[aeF,w]at hp
    rcases aeJ.1 hp with hp|hp
    ·exact a4 p hp
    ·simp at hp;subst hp;exact⟨a2,a7⟩
  have Z:((cX ps).take (i+1)).Pairwise λa b=>gG a.1 b.1<0:=pC (r:=λa b:dl×List ByteArray=>gG a.1 b.1<0) yR a5 w λy h0 K=>by
    first
      |(exfalso;have:=ba o;omega)
      |(rw[a1]at K;cases K
        have l:=ba F
        have e7:mQ (wy,I,ly) (E,d,f)=gG I d:=rfl
        show gG I d<0
        omega)
  have a3:d∉((cX ps).take i).map (·.1):=λY=>by
    rw[aeF,w]at Z
    obtain⟨p,hp,N⟩:=aeI.1 Y
    have:=(aeK.1 Z).2.2 p hp (d,f) (by simp)
    simp only at this
    rw[N]at this
    have e0:=rn.refl d
    omega
  refine .kn<|.region<|.mo rfl<|.fa rfl<|.lo rfl<|.fa rfl<|.lo rfl<|.fa rfl<|.lo rfl ?_
  refine .aT (wA g _ [] T A d.1 d.2 E f _ rz fz (λp hp=>by
    have b5:=List.mem_of_mem_take hp
    obtain⟨q,hq,rfl⟩:=aeI.1 b5
    have:=hf q hq
    omega)) (λu U D=>?_)
  obtain⟨rfl,l2,b0,b2,_,J⟩:=D
  have b3:bO (d.1,d.2) ((cX ps).take i)=none:=jG.2 a3
  have b1:l2=f:=tC b0 a7 λs=>by rw[b2,b3];simp
  subst b1
  rw[if_neg a2,show dQ (d.1,d.2) l2 ((cX ps).take i)=(cX ps).take (i+1) by
    unfold dQ
    rw[kC a3,aeF,w]
    rfl]at J
  refine .nil<|bz<|aG<|.region ?_
  refine .ia (i+1) .add ?_
  refine .mo rfl<|.nil ?_
  ·exact br (i+1,U) ⟨W,⟨b4,Z⟩,J⟩ (by simp only;omega) kE.c.c.c.c.c.c (bG [1])
  have c5:i=ps.length:=by have:=ba V;omega
  rw[c5, <-c9,List.take_length]at a4 a5 A
  have c2:jA (cX ps):=⟨a4,a5⟩
  refine .exit<|bk<|bw<|bq<|aG<|.seq<|.sr<|.mo rfl<|.q (.cv h') ?_
  refine .mo rfl<|.zn<|.block ?_
  refine .loop (X:=Nat×au) (λy=>y.1<=qs.length/\(y.1<=4096/\((dm qs).take y.1).Pairwise λa b=>cw a.text b.text=true)/\GI g (cX ps) (iR ((dm qs).take y.1)) y.2) (λy=>[(1,.slice pt qs.length b7),(6,pT g),(52,.slice pt qs.length b7),(53,iN qs.length),(54,iN y.1)]) (λy=>[y.2]) (λy=>qs.length-y.1) (0,T) ⟨Nat.zero_le _,⟨Nat.zero_le _,by simp⟩,A⟩ kE.c.c.c.c.c rH ?_
  clear A T
  rintro⟨j,T⟩ ⟨hj,⟨c8,a6⟩,A⟩
  simp only at hj c8 a6 A⊢
  refine .sr<|.q .lss<|.zs ?_
  refine .cond rfl (λh3=>?_) λh3=>?_
  have W:j<qs.length:=fg h3
  obtain⟨⟨E,H⟩,Q⟩:=dM W
  have cz:=b9 _ (bD Q)
  have fz:=c3 _ (bD Q)
  have iz:bI (dZ (E,H)):=⟨cz.bU⟩
  have w:(dm qs)[j]? =some H:=by simp[Q]
  refine .kn<|.seq<|.block<|.sr<|.mo rfl ?_
  refine .cB j h' Q (λd5=>?_)
  refine .q (.bj rfl) ?_
  refine .cn (λd1=>?_)
  refine .ag rfl<|.bZ rfl rfl<|.zs<|.seq ?_
  refine .kG mixed (by kernel_rfl) ?_
  refine .mo rfl<|.q .gtr<|.mo rfl ?_
  refine .split (t:=61) rfl (λm=>?_) (λm=>?_)
  have c7:0<j:=by have:=bp m;omega
  obtain⟨⟨wy,ty⟩,O⟩:∃z,qs[j-1]? =some z:=⟨_,bd (by omega)⟩
  have cy:=b9 _ (bD O)
  have iy:bI (dZ (wy,ty)):=⟨cy.bU⟩
  have a1:(dm qs)[j-1]? =some ty:=by simp[O]
  have py:=h'.pc O
  refine .gT m<|.mo rfl<|.gT m<|.mo rfl<|.gT m ?_
  refine .ia (j-1) .sub ?_
  refine .gT m<|.q (.cB (j-1) h' O rfl rfl rfl) ?_
  refine .gT m<|.fa rfl<|.gT m<|.lo rfl<|.gT m<|.fa rfl<|.gT m<|.lo rfl<|.gT m<|.q .qj<|.q (.bA m) ?_
  refine .mo rfl ?_
  refine .split (t:=72) rfl (λL=>?_) (λL=>?_)
  have B:eE (cX ps) (dm qs)=false:=by
    unfold eE
    rw[aeE (p:=lp (dm qs)),aeN]
    intro n
    have C:cw ty.text H.text=true:=tj (r:=λa b:cZ=>cw a.text b.text=true) n.1 w a1 c7
    have l:cw ty.text H.text=false:=by simpa using L
    rw[C]at l;cases l
  refine .gF L<|.gF L<|.q (.bA L) ?_
  refine .zn<|.cW ?_
  have B:eE (cX ps) (dm qs)=false:=by
    first
      |assumption
      |(unfold eE
        rw[aeE (p:=lp (dm qs)),aeN]
        intro n
        have C:=n.2
        have l:=bp S
        omega)
  refine .sr<|.ag rfl<|.az rfl ?_
  refine .ret (aR (bi (aR (cK (bi (aR (aO _ (.two (.tmp rfl) (.tmp rfl)) (.one [0] _) ?_)))))))
  ·first
      |exact⟨_,rfl,.inl ⟨M,g,rfl,by simpa[take]using A⟩⟩
      |exact⟨_,rfl,.inr ⟨B,rfl⟩⟩
  refine .gT L<|.mo rfl<|.gT L<|.q .geq<|.q (.bg L) ?_
  refine .zn ?_
  refine .cond rfl (λS=>?_) λS=>?_
  have B:eE (cX ps) (dm qs)=false:=by
    first
      |assumption
      |(unfold eE
        rw[aeE (p:=lp (dm qs)),aeN]
        intro n
        have C:=n.2
        have l:=bp S
        omega)
  refine .sr<|.ag rfl<|.az rfl ?_
  refine .ret (aR (bi (aR (cK (bi (aR (aO _ (.two (.tmp rfl) (.tmp rfl)) (.one [0] _) ?_)))))))
  ·first
      |exact⟨_,rfl,.inl ⟨M,g,rfl,by simpa[take]using A⟩⟩
      |exact⟨_,rfl,.inr ⟨B,rfl⟩⟩
  have a9:j<4096:=by have:=ba S;omega
  have a0:((dm qs).take (j+1)).Pairwise λa b=>cw a.text b.text=true:=pC (r:=λa b:cZ=>cw a.text b.text=true) (λx y z V G=>kY V G) a6 w λy h0 K=>by
    first
      |(exfalso;have:=ba m;omega)
      |(rw[a1]at K;cases K
        simpa using L)
  have a8:(dm qs).take (j+1)=(dm qs).take j++[H]:=by rw[aeF,w];rfl
  refine .kn<|.region<|.mo rfl<|.q (.bj rfl) ?_
  refine .aT (wG g _ _ T A E H _ cz fz (by simp[iR];omega)) (λu U D=>?_)
  obtain⟨rfl,J⟩:=D
  have b6:dQ H.text H (iR ((dm qs).take j))=iR ((dm qs).take (j+1)):=by
    rw[a8]
    unfold dQ
    rw[kC]
    ·simp[iR]
    ·intro Y
     rw[a8,aeK]at a0
     obtain⟨p,hp,N⟩:=aeI.1 Y
     obtain⟨t,ht,rfl⟩:=aeI.1 hp
     have:=a0.2.2 t ht H (by simp)
     simp only at N
     rw[N,ki]at this;cases this
  rw[b6]at J
  refine .nil<|bz<|aG<|.region ?_
  refine .ia (j+1) .add ?_
  refine .mo rfl<|.nil ?_
  ·exact br (j+1,U) ⟨W,⟨a9,a0⟩,J⟩ (by simp only;omega) kE.c.c.c.c.c (bG [1])
  refine .gF m<|.gF m<|.gF m<|.gF m<|.gF m<|.gF m<|.gF m<|.gF m<|.gF m<|.q (.bg m) ?_
  refine .mo rfl<|.gt rfl ?_
  refine .mo rfl<|.gt rfl ?_
  refine .q .geq<|.q .cd<|.zn ?_
  refine .cond rfl (λS=>?_) λS=>?_
  have B:eE (cX ps) (dm qs)=false:=by
    first
      |assumption
      |(unfold eE
        rw[aeE (p:=lp (dm qs)),aeN]
        intro n
        have C:=n.2
        have l:=bp S
        omega)
  refine .sr<|.ag rfl<|.az rfl ?_
  refine .ret (aR (bi (aR (cK (bi (aR (aO _ (.two (.tmp rfl) (.tmp rfl)) (.one [0] _) ?_)))))))
  ·first
      |exact⟨_,rfl,.inl ⟨M,g,rfl,by simpa[take]using A⟩⟩
      |exact⟨_,rfl,.inr ⟨B,rfl⟩⟩
  have a9:j<4096:=by have:=ba S;omega
  have a0:((dm qs).take (j+1)).Pairwise λa b=>cw a.text b.text=true:=pC (r:=λa b:cZ=>cw a.text b.text=true) (λx y z V G=>kY V G) a6 w λy h0 K=>by
    first
      |(exfalso;have:=ba m;omega)
      |(rw[a1]at K;cases K
        simpa using L)
  have a8:(dm qs).take (j+1)=(dm qs).take j++[H]:=by rw[aeF,w];rfl
  refine .kn<|.region<|.mo rfl<|.q (.bj rfl) ?_
  refine .aT (wG g _ _ T A E H _ cz fz (by simp[iR];omega)) (λu U D=>?_)
  obtain⟨rfl,J⟩:=D
  have b6:dQ H.text H (iR ((dm qs).take j))=iR ((dm qs).take (j+1)):=by
    rw[a8]
    unfold dQ
    rw[kC]
    ·simp[iR]
    ·intro Y
     rw[a8,aeK]at a0
     obtain⟨p,hp,N⟩:=aeI.1 Y
     obtain⟨t,ht,rfl⟩:=aeI.1 hp
     have:=a0.2.2 t ht H (by simp)
     simp only at N
     rw[N,ki]at this;cases this
  rw[b6]at J
  refine .nil<|bz<|aG<|.region ?_
  refine .ia (j+1) .add ?_
  refine .mo rfl<|.nil ?_
  ·exact br (j+1,U) ⟨W,⟨a9,a0⟩,J⟩ (by simp only;omega) kE.c.c.c.c.c (bG [1])
  have c6:j=qs.length:=by have:=ba h3;omega
  rw[c6, <-d0,List.take_length]at a6 A
  have M:eE (cX ps) (dm qs)=true:=by
    unfold eE
    rw[aeG c2,aeG (p:=lp (dm qs)) ⟨a6,by omega⟩];rfl
  refine .exit<|bk<|bw<|bq<|aG<|.sr<|.mo rfl<|.ag rfl<|.az rfl ?_
  refine .ret (aO _ (.two (.tmp rfl) (.tmp rfl)) (.one [0] _) ?_)
  ·first
      |exact⟨_,rfl,.inl ⟨M,g,rfl,by simpa[take]using A⟩⟩
      |exact⟨_,rfl,.inr ⟨B,rfl⟩⟩
end Go.Proofs.YtocjmmbldeljnaaGreatDoor
