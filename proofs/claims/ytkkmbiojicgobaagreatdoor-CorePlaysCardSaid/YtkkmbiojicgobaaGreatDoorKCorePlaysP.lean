/- What the law 'CorePlays' uses. No condition. -/
import Derived.Test.YtkkmbiojicgobaaGreatDoorKCorePlaysB
import Derived.Test.YtkkmbiojicgobaaGreatDoorKCorePlaysH
import Derived.Test.YtkkmbiojicgobaaGreatDoorKCorePlaysI
import Derived.Test.YtkkmbiojicgobaaGreatDoorKCorePlaysN
import Derived.Test.YtkkmbiojicgobaaGreatDoorKCorePlaysO
set_option linter.unusedSimpArgs false
set_option linter.unusedVariables false
namespace Go.Proofs.YtkkmbiojicgobaaGreatDoor
set_option linter.defProp false
def ad4:=@List.mem_cons
def ad5:=@List.map_map
def ad6:=@List.length_append
def ad7:=@List.map_congr_left
open Tryz
set_option linter.unusedVariables false
set_option maxRecDepth 4000
abbrev gO(l:List ByteArray):Prop:=l.Pairwise λa b=>cq a b=true
theorem sB:∀{l m:List ByteArray},gO l->gO m->(∀s,s∈l↔s∈m)->l=m
 |[],[],_,_,_=>rfl
 |[],y::m,_,_,h=>by have:=(h y).2 (by simp);simp at this
 |x::l,[],_,_,h=>by have:=(h x).1 (by simp);simp at this
 |x::l,y::m,hl,hm,h=>by
  have b:=List.pairwise_cons.1 hl
  have c:=List.pairwise_cons.1 hm
  have f:x=y:=by
   rcases ad4.1 ((h x).1 (by simp))with h1|h1
   ·exact h1
   ·rcases ad4.1 ((h y).2 (by simp))with h2|h2
    ·exact h2.symm
    ·have a:=c.1 x h1
     have e:=b.1 y h2
     have:=na a e
     rw[lq]at this;cases this
  subst f
  congr 1
  refine sB b.2 c.2 λs=>?_
  have d:=h s
  simp only[ad4]at d
  constructor
  ·intro h1
   rcases d.1 (.inr h1)with h2|h2
   ·have a:=b.1 s h1
    rw[h2,lq]at a;cases a
   ·exact h2
  ·intro h1
   rcases d.2 (.inr h1)with h2|h2
   ·have a:=c.1 s h1
    rw[h2,lq]at a;cases a
   ·exact h2
theorem vT(a b:ByteArray):ay fS a b=cq a b:=by
 unfold ay
 rw[Bool.eq_iff_iff,jE,decide_eq_true_eq]
theorem rQ{a:List (cw×WS)}{C:List (cw×List ByteArray)}{c:ax}(f:(a.map (·.1)).Nodup)(e:∀p∈a,RS (dU c) 1 bz p.2.1 p.2.2)(d:(dL (λp:WS=>p.2) a).Perm C)(k:cw):
  ∃w l,((aS k a).map λp:WS=>p.1).getD (sZ)=w/\RS (dU c) 1 bz w l/\(aS k C).getD []=l/\(aS k a).isSome=(aS k C).isSome:=by
 have b:aS k C=(aS k a).map (·.2):=by rw[<-nJ d (by rw[kM];exact f),nD]
 cases hm:aS k a with
 |none=>rw[hm]at b;rw[b];exact⟨_,_,rfl,RS.nK,rfl,rfl⟩
 |some p=>
  rw[hm]at b;rw[b]
  exact⟨p.1,p.2,rfl,e _ (fG hm),rfl,rfl⟩
theorem pb{R:au}{H:aV}{a:ax}(d:a∈H):∀b o,dU a b o->Rx R H b o:=λb o c=>.inr (List.mem_flatten.2 ⟨a,d,c.1⟩)
theorem Kd(g:Nat)(C:List (cw×List ByteArray))(A:List (ByteArray×bJ))(T:ax)(h:GI g C A T)(user aC:ByteArray)(vs:Value)(j:List ByteArray)(R:au)(W:RS R 1 bz vs j)(b1:j.length<=100000)(f:∀p∈C,p.2.length<=1000000):
  Spec prog 72 [pT g,.string user,.string aC,vs] R [T] λu H'=>∃T',H'=[T']/\u=.tuple #[]/\∃l,gO l/\(∀s,s∈l↔s∈(aS (user,aC) C).getD []\/s∈j)/\l.length<=((aS (user,aC) C).getD []).length+j.length/\GI g (if l=[]then C else cO (user,aC) l C) A T':=by
 have b0:=h.KU
 have h0:=h
 obtain⟨k,_,rfl,y,MC,vm,M,q,F,m,n,rfl,⟨i,I,H⟩,J,hI,hA,hQ⟩:=h
 obtain⟨r,rfl⟩:∃b,vm=.map (some b):=by obtain⟨b,es,a0,B,_⟩:=J;exact⟨b,B⟩
 have ic:One y:=⟨by obtain⟨b,es,a0,B,_⟩:=i;subst B;rfl⟩
 have is:=W.av
 obtain⟨Y,w,a7,U,O,_⟩:=rQ i.nd I H (user,aC)
 have i0:=U.av
 have a3:w.length<=1000000:=by
  rw[<-O]
  cases hm:aS (user,aC) C with
  |none=>simp
  |some x=>exact f _ (fG hm)
 rw[O]
 refine Spec.cX (H':=[bl g [y,.map (some r),pT q] 132,F,m,n,k]) (by simp) ?_
 refine Spec.body func72 rfl results72 ntmps72 rfl ?_
 refine .seq<|.sr<|.mo rfl ?_
 refine .aL (ma g r _ _ _) (λv hv=>?_)
 subst hv
 refine .q .not<|.zn<|.bX<|.kn<|.sr<|.mo rfl<|.nc rfl<|.fa rfl<|.lo rfl<|.mo rfl<|.mo rfl ?_
 refine .q .du ?_
 refine .q (.vS (v:=Y) i.rx rfl (show _=some (Value.agg (gY (user,aC)).toArray)from rfl) a7) ?_
 refine .cW (nf Y w _ (U.mono (pb (by simp))) a3) (λv1 T1 K=>?_)
 have i1:=K.av
 refine .mo rfl ?_
 refine .append K W.rx (by omega) (λX Z L=>?_)
 have i2:=L.av
 refine .ag rfl<|.z<|.mo rfl ?_
 refine .bT (SST.jG (c:=fS) (ok:=λ_=>True) X (w++j) Z _ L (by simp;omega) rfl (λ_ _=>trivial) qH.so) (λu T3 hu=>?_)
 obtain⟨rfl,d,a2,S,a6⟩:=hu
 have a8:=S.length_eq
 rw[ad6]at a8
 have V:=ux d (a6.ordered.imp λ{a b} N=>by rw[vT]at N;exact N)
 have a9:=rq d
 have Q:∀s,s∈eL d↔s∈w\/s∈j:=λs=>by rw[rr,S.mem_iff,List.mem_append]
 refine .z<|.mo rfl ?_
 refine .bT (uo X d T3 _ a2 (by omega)) (λu E D=>?_)
 have i4:=D.av
 refine .ag rfl<|.z<|.mo rfl<|.q (.ei D) ?_
 refine .q .gtr<|.zn ?_
 refine .cond rfl (λt=>?_) λt=>?_
 have a4:eL d≠[]:=λe=>by rw[e]at t;simp at t
 refine .region<|.mo rfl<|.nc rfl<|.fa rfl<|.lo rfl<|.mo rfl<|.mo rfl ?_
 refine .q .du ?_
 refine .mo rfl ?_
 refine .update (u:=((u,eL d):WS)) i rfl (show _=some (Value.agg (gY (user,aC)).toArray)from rfl) rfl (λG a1 _=>?_)
 refine .nil<|ed _ .none (.one [1,1,1,1,1,0] _) ?_
 ·refine⟨((g,.cells [y,.map (some r),pT q].toArray 132 (0,0))::(G++(m++n)))++(k++E),by simp[take,aY],rfl,eL d,V,Q,by omega,?_⟩
  rw[if_neg a4]
  refine⟨k++E,_,rfl,_,_,_,M,q,G,m,n,rfl,⟨a1,λp hp=>?_,?_⟩,J,λp hp=>?_,hA,hQ⟩
  ·rcases oX i.nd hp with hp|rfl
   ·exact(I p hp).mono λb o f=>mK f
   ·exact D.dU.mono λb o f=>nV f
  ·exact(mf (m4 i.nd)).trans (by rw[mg];exact mH H)
  ·obtain⟨q1,q2,q3⟩:=hI p hp
   exact⟨q1,q2.mono λb o f=>mK f,q3⟩
 have a5:eL d=[]:=by
  rcases Nat.eq_zero_or_pos (eL d).length with h9|h9
  ·exact List.length_eq_zero_iff.1 h9
  ·exfalso
   have:=bi t
   omega
 refine .skip<|ed _ .none (.one [1,1,1,1,1] _) ?_
 ·refine⟨((g,.cells [y,.map (some r),pT q].toArray 132 (0,0))::(F++(m++n)))++k,by simp[take,aY],rfl,eL d,V,Q,by omega,?_⟩
  rw[if_pos a5]
  exact h0
theorem vD(g:Nat)(C:List (cw×List ByteArray))(A:List (ByteArray×bJ))(T:ax)(h:GI g C A T)(user aC:ByteArray)(R:au)(i:∀p∈T,R p.1 p.2)(a:∀p∈C,p.2.length<=1000000):
  Spec prog 50 [pT g,.string user,.string aC] R [] λu H'=>∃T',H'=[T']/\OS 9 1 bz u ((aS (user,aC) C).getD []) T':=by
 obtain⟨j,_,rfl,c,t,N,M,q,O,Q,S,rfl,⟨f,D,B⟩,F,V,U,W⟩:=h
 obtain⟨d,rfl⟩:∃b,N=.map (some b):=by obtain⟨b,z,y,e,_⟩:=F;exact⟨b,e⟩
 have Z:One c:=⟨by obtain⟨b,z,y,e,_⟩:=f;subst e;rfl⟩
 have pq:PC R (pT g) [c,.map (some d),pT q]:=PC.of (E:=132) (fr:=(0,0)) (i (g,.cells [c,.map (some d),pT q].toArray 132 (0,0)) (by simp))
 have L:∀H',RM (Rx R H') (λk:cw=>.agg (gY k).toArray) (λp:WS=>p.1) c t:=λH'=>f.rm λp I=>.inl (i p (by simp[I]))
 have G:∀b o,dU j b o->R b o:=λb o a=>i (b,o) (by have:(b,o)∈j:=a.1;simp[this])
 obtain⟨s,r,K,n,m,_⟩:=rQ f.nd D B (user,aC)
 have X:=n.av
 have H:r.length<=1000000:=by
  rw[<-m]
  cases hm:aS (user,aC) C with
  |none=>simp
  |some x=>exact a _ (fG hm)
 rw[m]
 refine Spec.body func50 rfl results50 ntmps50 rfl ?_
 refine .sr<|.ag rfl<|.zs<|.sr<|.mo rfl ?_
 refine .aL (ma g d _ _ _) (λv J=>?_)
 subst J
 refine .q .not<|.zn<|.bX<|.kn<|.sr<|.mo rfl<|.nc rfl<|.fa rfl<|.lo rfl<|.mo rfl<|.mo rfl ?_
 refine .q .du ?_
 refine .q (.vS (v:=s) (L _) rfl (show _=some (Value.agg (gY (user,aC)).toArray)from rfl) K) ?_
 refine .cW (nf s r _ (n.mono λb o a=>.inl (G b o a)) H) (λv1 w l=>?_)
 have Y:=l.av
 refine .az rfl ?_
 refine .ret (aN _ (.one (.tmp rfl)) (.one [0] _) ?_)
 ·exact⟨w,by simp[take],l⟩
def nu(M:List (ByteArray×GP))(k:ByteArray):bJ:=((aS k M).map (·.2)).getD bJ.zero
theorem JW{M:List (ByteArray×GP)}(a:(M.map (·.1)).Nodup):(M.map (·.1)).map (nu M)=M.map (·.2.2):=by
 rw[ad5]
 refine ad7 λp b=>?_
 have:aS p.1 M=some p.2:=gu a (by exact b)
 simp[nu,this]
abbrev eJ(ps:List GP):List bJ:=ps.map (·.2)
def nz(L:List bJ):List (ByteArray×bJ):=L.map λt=>(t.text,t)
theorem Kj{A:List (ByteArray×bJ)}(h:∀p∈A,p.1=p.2.text):nz (A.map (·.2))=A:=by
 unfold nz
 rw[ad5]
 conv=>rhs;rw[<-List.map_id A]
 exact ad7 λp a=>by rw[Function.comp, <-h p a];rfl
theorem vp(g:Nat)(C:List (cw×List ByteArray))(A:List (ByteArray×bJ))(T:ax)(h:GI g C A T)(hl:A.length<=1000000)(R:au)(F:∀p∈T,R p.1 p.2):
  Spec prog 54 [pT g] R [] λv H'=>∃T',H'=[T']/\∃ps To Ti,T'=To++Ti/\OS 123 9 bM v ps To/\(∀p∈ps,dl (dU Ti) p)/\(nz (eJ ps)).Perm A/\ps.Pairwise (λp q=>cq q.2.text p.2.text=false):=by
 have b2:=h.keys
 obtain⟨L,_,rfl,H,MC,vm,M,q,Tc,Tm,Tq,rfl,⟨a6,b8,hC⟩,j,hI,hA,hQ⟩:=h
 obtain⟨f,rfl⟩:∃b,vm=.map (some b):=by obtain⟨b,es,a5,r,_⟩:=j;exact⟨b,r⟩
 have ic:One H:=⟨by obtain⟨b,es,a5,r,_⟩:=a6;subst r;rfl⟩
 have pq:PC R (pT g) [H,.map (some f),pT q]:=PC.of (E:=132) (fr:=(0,0)) (F (g,.cells [H,.map (some f),pT q].toArray 132 (0,0)) (by simp))
 have rm:RM R (λs:ByteArray=>.string s) (λp:GP=>.agg (bM p).toArray) (.map (some f)) M:=j.rm λp hp=>F p (by simp[hp])
 have hT:∀b o,dU L b o->R b o:=λb o d=>F (b,o) (by have:(b,o)∈L:=d.1;simp[this])
 have Q:(M.map (·.2.2)).Perm (A.map (·.2)):=by
  have:=hA.map (·.2)
  unfold dL at this
  rw[ad5]at this
  exact this
 have b9:M.length=A.length:=by simpa using Q.length_eq
 refine Spec.cX (H':=[[],[]]) (by simp) ?_
 refine Spec.body func54 rfl results54 ntmps54 rfl ?_
 refine .sr<|.ag rfl<|.zs<|.sr<|.mo rfl ?_
 refine .aL (ma g f _ _ _) (λv G=>?_)
 subst G
 refine .q .not<|.zn<|.bX<|.kn<|.sr<|.ag rfl<|.zs<|.sr<|.mo rfl<|.nc rfl<|.fa rfl<|.lo rfl ?_
 refine .range rm (λ_ _=>.inl) rfl (λit a3 b1=>?_)
 refine .zn<|.block ?_
 refine .loop (X:=List GP×List ByteArray×Value×ax×ax×ax) (λy=>(∀p∈y.1,dl (dU y.2.2.2.2.1) p)/\y.2.1.Nodup/\(eJ y.1++y.2.1.map (nu M)).Perm (A.map (·.2))/\OS 123 9 bM y.2.2.1 y.1 y.2.2.2.1/\It R (λs:ByteArray=>.string s) (λp:GP=>.agg (bM p).toArray) (.map (some f)) M it y.2.1 y.2.2.2.2.2) (λy=>[(0,pT g),(3,y.2.2.1),(13,it)]) (λy=>[y.2.2.2.2.2,y.2.2.2.1,y.2.2.2.2.1]) (λy=>y.2.1.length) ([],M.map (·.1),sZ,[],[],a3) ⟨by simp,j.nd,by rw[JW j.nd];exact Q,OS.nil,b1⟩ kE.c.c.c rH ?_
 rintro⟨ps,b6,vo,To,n,Ti⟩ ⟨m,D,i,l,Y⟩
 simp only at m D i l Y⊢
 have i2:=l.av
 have a1:=i.length_eq
 simp only[ad6,List.length_map]at a1
 refine .sr ?_
 refine .m5 Y (λ_ _=>.inl) rfl (λb rest a4 hf ht=>?_)
 refine .q .extract<|.zs ?_
 refine .cond rfl (λw=>?_) λw=>?_
 obtain⟨k,⟨I,e⟩,hk,a0,Z⟩:=ht w
 obtain⟨_,V,a8⟩:=hI (k,(I,e)) (fG a0)
 have i3:bG (bM (I,e)):=⟨V.bD⟩
 have b0:nu M k=e:=by simp[nu,a0]
 have W:=filter_one D hk
 refine .kn<|.block<|.sr ?_
 refine .q (.entry Z (λ_ _=>.inl) rfl) ?_
 refine .q .extract ?_
 refine .cG (λb5=>?_)
 refine .cc rfl rfl<|.zn<|.region<|.mo rfl<|.q (.bI rfl) ?_
 refine .cW (ql I e _ (V.mono λb o d=>.inl (hT b o d)) a8) (λv T1 G=>?_)
 obtain⟨J,rfl,B⟩:=G
 have i4:bG (bM (J,e)):=⟨B.bD⟩
 refine .fQ (λb7=>?_)
 refine .append l (RS.lits (xs:=[((J,e):GP)]) rfl (by simp[bM]) (by have:=B.bD;simpa using this)) (by simp;omega) (λv5 T5 a7=>?_)
 refine .ag rfl<|.nil<|bw ?_
 ·refine bd (ps++[(J,e)],b6.filter λk'=>decide (k'≠k),v5,T5,T1++n,a4) ⟨λp hp=>?_,D.sublist List.filter_sublist,?_,a7,Z.it⟩ ?_ kE.c.c.c ((aH [3,3,1,2]).trans (aU.bu (by simp[take,aY])))
  ·simp only
   rcases List.mem_append.1 hp with hp|hp
   ·exact(m p hp).mono λb o d=>nV d
   ·simp only[List.mem_singleton]at hp;subst hp
    exact B.mono λb o d=>mK d
  ·simp only
   refine List.Perm.trans ?_ i
   rw[eJ,List.map_append,List.append_assoc]
   refine List.Perm.append_left _ ?_
   have:=(W.map (nu M)).symm
   rw[List.map_cons,b0]at this
   exact this
  ·have:=W.length_eq
   simp only[List.length_cons]at this
   simp only;omega
 have b4:=hf w
 subst b4
 simp only[List.map_nil,List.append_nil]at i
 have a9:fX prog 126 [] R (λp:GP=>Value.agg (bM p).toArray) dP q4:=λx y hx hy R2 _=>Kc x y R2 hx hy
 refine .exit<|bE<|bH<|bF<|aD<|.sr<|.mo rfl ?_
 refine .bT (SGC.jG (caps:=[]) vo ps To _ l (by simp at a1;omega) a9 (λp hp=>(m p hp).bD) vl) (λu K hu=>?_)
 obtain⟨rfl,ys,S,a2,b3⟩:=hu
 have i5:=S.av
 refine .z<|.mo rfl<|.az rfl ?_
 refine .ret (aN _ (.one (.tmp rfl)) ((aH [1,1]).trans (aU.bu (H':=[K++n]) (by simp[take,aY]))) ?_)
 ·refine⟨_,rfl,ys,K,n,rfl,S,λp hp=>m p (a2.mem_iff.1 hp),?_,b3.ordered.imp λ{a b} U=>by rw[lj]at U;exact U⟩
  have N:=((a2.map (·.2)).trans i).map λt:bJ=>(t.text,t)
  have O:=Kj b2
  unfold nz at O
  rw[O]at N
  exact N
def nx(MC:List (cw×WS))(k:cw):cw×List ByteArray:=(k,((aS k MC).map (·.2)).getD [])
theorem Kb{a:List (cw×WS)}(b:(a.map (·.1)).Nodup):(a.map (·.1)).map (nx a)=dL (λp:WS=>p.2) a:=by
 unfold dL
 rw[ad5]
 refine ad7 λp c=>?_
 have:aS p.1 a=some p.2:=gu b (by exact c)
 simp[nx,this]
theorem u6{κ:Type} [DecidableEq κ]{k:κ}:∀{l:List κ},l.Nodup->k∈l->l.Perm (k::l.filter λk'=>decide (k'≠k))
 |[],_,h=>by cases h
 |x::l,hn,h=>by
  have b:=List.nodup_cons.1 hn
  by_cases a:x=k
  ·subst a
   rw[List.filter_cons_of_neg (by simp),List.filter_eq_self.2 λy d=>by
    have c:y≠x:=λe=>b.1 (by rw[<-e];exact d)
    exact decide_eq_true c]
  ·rw[List.filter_cons_of_pos (by simp[a])]
   exact((u6 b.2 ((ad4.1 h).resolve_left λe=>a e.symm)).cons x).trans (.swap _ _ _)
theorem Ke(g:Nat)(C:List (cw×List ByteArray))(A:List (ByteArray×bJ))(T:ax)(h:GI g C A T)(hl:C.length<=1000000)(a:∀p∈C,p.2.length<=1000000)(R:au)(H:∀p∈T,R p.1 p.2):
  Spec prog 53 [pT g] R [] λv H'=>∃T',H'=[T']/\∃ps To Ti,T'=To++Ti/\OS 118 3 eb v ps To/\(∀p∈ps,iB (dU Ti) p)/\(ps.map (·.2)).Perm C/\ps.Pairwise (λp q=>ay dw q p=false):=by
 obtain⟨K,_,rfl,j,e,vm,M,q,Tc,Tm,Tq,rfl,⟨l,a3,B⟩,hM,hI,hA,hQ⟩:=h
 obtain⟨s,rfl⟩:∃b,vm=.map (some b):=by obtain⟨b,es,a2,t,_⟩:=hM;exact⟨b,t⟩
 have ic:One j:=⟨by obtain⟨b,es,a2,t,_⟩:=l;subst t;rfl⟩
 have pq:PC R (pT g) [j,.map (some s),pT q]:=PC.of (E:=132) (fr:=(0,0)) (H (g,.cells [j,.map (some s),pT q].toArray 132 (0,0)) (by simp))
 have rm:RM R (λk:cw=>.agg (gY k).toArray) (λp:WS=>p.1) j e:=l.rm λp hp=>H p (by simp[hp])
 have hT:∀b o,dU K b o->R b o:=λb o a=>H (b,o) (by have:(b,o)∈K:=a.1;simp[this])
 have b3:e.length=C.length:=by simpa[mG]using B.length_eq
 refine Spec.cX (H':=[[],[]]) (by simp) ?_
 refine Spec.body func53 rfl results53 ntmps53 rfl ?_
 refine .sr<|.ag rfl<|.zs<|.sr<|.mo rfl ?_
 refine .aL (ma g s _ _ _) (λv hv=>?_)
 subst hv
 refine .q .not<|.zn<|.bX<|.kn<|.sr<|.ag rfl<|.zs<|.sr<|.mo rfl<|.nc rfl<|.fa rfl<|.lo rfl ?_
 refine .range rm (λ_ _=>.inl) rfl (λY a0 a7=>?_)
 refine .zn<|.block ?_
 refine .loop (X:=List NP×List cw×Value×ax×ax×ax) (λy=>(∀p∈y.1,iB (dU y.2.2.2.2.1) p)/\y.2.1.Nodup/\(y.1.map (·.2)++y.2.1.map (nx e)).Perm C/\OS 118 3 eb y.2.2.1 y.1 y.2.2.2.1/\It R (λk:cw=>.agg (gY k).toArray) (λp:WS=>p.1) j e Y y.2.1 y.2.2.2.2.2) (λy=>[(0,pT g),(3,y.2.2.1),(13,Y)]) (λy=>[y.2.2.2.2.2,y.2.2.2.1,y.2.2.2.2.1]) (λy=>y.2.1.length) ([],e.map (·.1),sZ,[],[],a0) ⟨by simp,l.nd,by rw[Kb l.nd];exact B,OS.nil,a7⟩ kE.c.c.c rH ?_
 rintro⟨ps,b1,vo,To,r,Ti⟩ ⟨n,G,i,m,S⟩
 simp only at n G i m S⊢
 have i2:=m.av
 have V:=i.length_eq
 simp only[ad6,List.length_map]at V
 refine .sr ?_
 refine .m5 S (λ_ _=>.inl) rfl (λb rest a1 hf ht=>?_)
 refine .q .extract<|.zs ?_
 refine .cond rfl (λw=>?_) λw=>?_
 obtain⟨k,⟨Z,d⟩,hk,F,U⟩:=ht w
 have D:=a3 (k,(Z,d)) (fG F)
 simp only at D
 have i3:=D.av
 have a6:nx e k=(k,d):=by simp[nx,F]
 have Q:=u6 G hk
 have a8:d.length<=1000000:=a (k,d) (B.mem_iff.1 (oP (f:=λp:WS=>p.2) (fG F)))
 refine .kn<|.block<|.sr ?_
 refine .q (.entry U (λ_ _=>.inl) rfl) ?_
 refine .q .extract<|.q .extract ?_
 refine .cG (λb4=>?_)
 refine .cc rfl rfl<|.az rfl<|.cP [9] mixed ?_
 refine .tO 0 rfl .move<|.tO 1 rfl (.fieldAddr rfl)<|.tO 2 rfl (.bK rfl)<|.tO 3 rfl (.fieldAddr rfl)<|.tO 4 rfl (.bK rfl)<|.tO 5 rfl .move ?_
 refine .sT 6 rfl ?_
 refine .cW (nf Z d _ (D.mono λb o a=>.inl (hT b o a)) a8) (λw1 I L=>?_)
 obtain⟨p1,k1,rfl,_⟩:=L.shape
 have O:iB (dU I) ((_,(k,d)):NP):=L.dU
 refine .nil (Next.sub ?_)
 refine .tO 7 rfl .du ?_
 refine .sT 8 rfl ?_
 refine .fQ (λb2=>?_)
 refine .nil (Next.sub ?_)
 refine .sT 9 rfl ?_
 refine .append m (RS.lits (xs:=[((_,(k,d)):NP)]) rfl (by simp[eb]) (by have:=O.bD;simpa using this)) (by simp;omega) (λv5 T5 a4=>?_)
 refine .nil (Next.mod rfl ?_)
 refine .tK 10 rfl .assign ?_
 refine RA.nil (by kernel_rfl) ?_
 refine bw ?_
 ·refine bd (ps++[(_,(k,d))],b1.filter λk'=>decide (k'≠k),v5,T5,I++r,a1) ⟨λp hp=>?_,G.sublist List.filter_sublist,?_,a4,U.it⟩ ?_ kE.c.c.c ((aH [3,3,1,2]).trans (aU.bu (by simp[take,aY])))
  ·simp only
   rcases List.mem_append.1 hp with hp|hp
   ·exact(n p hp).mono λb o a=>nV a
   ·simp only[List.mem_singleton]at hp;subst hp
    exact O.mono λb o a=>mK a
  ·simp only
   refine List.Perm.trans ?_ i
   rw[List.map_append,List.append_assoc]
   refine List.Perm.append_left _ ?_
   have:=(Q.map (nx e)).symm
   rw[List.map_cons,a6]at this
   exact this
  ·have:=Q.length_eq
   simp only[List.length_cons]at this
   simp only;omega
 have b0:=hf w
 subst b0
 simp only[List.map_nil,List.append_nil]at i
 have a5:fX prog 123 [] R (λp:NP=>Value.agg (eb p).toArray) dw q5:=λx y hx hy R2 _=>yZ x y R2 hx hy
 refine .exit<|bE<|bH<|bF<|aD<|.sr<|.mo rfl ?_
 refine .bT (SGN.jG (caps:=[]) vo ps To _ m (by simp at V;omega) a5 (λp hp=>(n p hp).bD) qq.so) (λu J hu=>?_)
 obtain⟨rfl,ys,N,W,a9⟩:=hu
 have i5:=N.av
 refine .z<|.mo rfl<|.az rfl ?_
 refine .ret (aN _ (.one (.tmp rfl)) ((aH [1,1]).trans (aU.bu (H':=[J++r]) (by simp[take,aY]))) ?_)
 ·exact⟨_,rfl,ys,J,r,rfl,N,λp hp=>n p (W.mem_iff.1 hp),(W.map (·.2)).trans i,a9.ordered⟩
theorem Oy{a b:cw}:mQ a b<0↔cq a.1 b.1=true\/(a.1=b.1/\cq a.2 b.2=true):=by
 unfold mQ
 rw[nM,nM,jE,jE, <-nT]
 simp only[gi]
 by_cases c:fS a.1 b.1=0
 ·rw[if_pos c]
  by_cases d:fS a.2 b.2=0
  ·rw[if_pos d];omega
  ·rw[if_neg d];omega
 ·rw[if_neg c];omega
def tu(cs:List (cw×List ByteArray)):Prop:=(∀p∈cs,p.2≠[]/\gO p.2)/\cs.Pairwise (λa b=>mQ a.1 b.1<0)
def tv(ts:List bJ):Prop:=ts.Pairwise (λa b=>cq a.text b.text=true)/\ts.length<=4096
instance(cs:List (cw×List ByteArray)):Decidable (tu cs):=by unfold tu;infer_instance
instance(ts:List bJ):Decidable (tv ts):=by unfold tv;infer_instance
end Go.Proofs.YtkkmbiojicgobaaGreatDoor
