/- What the law 'CoreErrors' uses. No condition. -/
import Derived.Test.YtkkmbiojicgobaaGreatDoorKCoreErrorsB
import Derived.Test.YtkkmbiojicgobaaGreatDoorKCoreErrorsH
import Derived.Test.YtkkmbiojicgobaaGreatDoorKCoreErrorsI
import Derived.Test.YtkkmbiojicgobaaGreatDoorKCoreErrorsN
import Derived.Test.YtkkmbiojicgobaaGreatDoorKCoreErrorsO
set_option linter.unusedSimpArgs false
set_option linter.unusedVariables false
namespace Go.Proofs.YtkkmbiojicgobaaGreatDoor
set_option linter.defProp false
def ad4:=@List.mem_cons
def ad5:=@List.map_map
def ad6:=@List.length_append
def ad7:=@List.map_congr_left
open Tryz
set_option linter.unusedVariables false
set_option maxRecDepth 4000
abbrev gR(l:List ByteArray):Prop:=l.Pairwise λa b=>cp a b=true
theorem sI:∀{l m:List ByteArray},gR l->gR m->(∀s,s∈l↔s∈m)->l=m
 |[],[],_,_,_=>rfl
 |[],y::m,_,_,h=>by have:=(h y).2 (by simp);simp at this
 |x::l,[],_,_,h=>by have:=(h x).1 (by simp);simp at this
 |x::l,y::m,hl,hm,h=>by
  have b:=List.pairwise_cons.1 hl
  have c:=List.pairwise_cons.1 hm
  have f:x=y:=by
   rcases ad4.1 ((h x).1 (by simp))with h1|h1
   ·exact h1
   ·rcases ad4.1 ((h y).2 (by simp))with h2|h2
    ·exact h2.symm
    ·have a:=c.1 x h1
     have e:=b.1 y h2
     have:=nk a e
     rw[ly]at this;cases this
  subst f
  congr 1
  refine sI b.2 c.2 λs=>?_
  have d:=h s
  simp only[ad4]at d
  constructor
  ·intro h1
   rcases d.1 (.inr h1)with h2|h2
   ·have a:=b.1 s h1
    rw[h2,ly]at a;cases a
   ·exact h2
  ·intro h1
   rcases d.2 (.inr h1)with h2|h2
   ·have a:=c.1 s h1
    rw[h2,ly]at a;cases a
   ·exact h2
theorem wa(a b:ByteArray):aA fT a b=cp a b:=by
 unfold aA
 rw[Bool.eq_iff_iff,jI,decide_eq_true_eq]
theorem rW{a:List (cB×WS)}{C:List (cB×List ByteArray)}{c:ax}(f:(a.map (·.1)).Nodup)(e:∀p∈a,RS (eg c) 1 bB p.2.1 p.2.2)(d:(dP (λp:WS=>p.2) a).Perm C)(k:cB):
  ∃w l,((aU k a).map λp:WS=>p.1).getD (sZ)=w/\RS (eg c) 1 bB w l/\(aU k C).getD []=l/\(aU k a).isSome=(aU k C).isSome:=by
 have b:aU k C=(aU k a).map (·.2):=by rw[<-nP d (by rw[kO];exact f),nJ]
 cases hm:aU k a with
 |none=>rw[hm]at b;rw[b];exact⟨_,_,rfl,RS.nQ,rfl,rfl⟩
 |some p=>
  rw[hm]at b;rw[b]
  exact⟨p.1,p.2,rfl,e _ (fH hm),rfl,rfl⟩
theorem nZ{R:av}{H:aV}{a:ax}(d:a∈H):∀b o,eg a b o->Rx R H b o:=λb o c=>.inr (List.mem_flatten.2 ⟨a,d,c.1⟩)
theorem Ku(g:Nat)(C:List (cB×List ByteArray))(A:List (ByteArray×bL))(T:ax)(h:GI g C A T)(user aE:ByteArray)(vs:Value)(j:List ByteArray)(R:av)(W:RS R 1 bB vs j)(b1:j.length<=100000)(f:∀p∈C,p.2.length<=1000000):
  Spec prog 72 [pT g,.string user,.string aE,vs] R [T] λu H'=>∃T',H'=[T']/\u=.tuple #[]/\∃l,gR l/\(∀s,s∈l↔s∈(aU (user,aE) C).getD []\/s∈j)/\l.length<=((aU (user,aE) C).getD []).length+j.length/\GI g (if l=[]then C else cT (user,aE) l C) A T':=by
 have b0:=h.Lb
 have h0:=h
 obtain⟨k,_,rfl,y,MC,vm,M,q,F,m,n,rfl,⟨i,I,H⟩,J,hI,hA,hQ⟩:=h
 obtain⟨r,rfl⟩:∃b,vm=.map (some b):=by obtain⟨b,es,a0,B,_⟩:=J;exact⟨b,B⟩
 have ic:One y:=⟨by obtain⟨b,es,a0,B,_⟩:=i;subst B;rfl⟩
 have is:=W.aw
 obtain⟨Y,w,a7,U,O,_⟩:=rW i.nd I H (user,aE)
 have i0:=U.aw
 have a3:w.length<=1000000:=by
  rw[<-O]
  cases hm:aU (user,aE) C with
  |none=>simp
  |some x=>exact f _ (fH hm)
 rw[O]
 refine Spec.dg (H':=[bl g [y,.map (some r),pT q] 132,F,m,n,k]) (by simp) ?_
 refine Spec.body func72 rfl results72 ntmps72 rfl ?_
 refine .seq<|.sr<|.mo rfl ?_
 refine .aM (mc g r _ _ _) (λv hv=>?_)
 subst hv
 refine .q .not<|.zn<|.bZ<|.kn<|.sr<|.mo rfl<|.nc rfl<|.fa rfl<|.lo rfl<|.mo rfl<|.mo rfl ?_
 refine .q .dI ?_
 refine .q (.vZ (v:=Y) i.rx rfl (show _=some (Value.agg (hK (user,aE)).toArray)from rfl) a7) ?_
 refine .da (nm Y w _ (U.mono (nZ (by simp))) a3) (λv1 T1 K=>?_)
 have i1:=K.aw
 refine .mo rfl ?_
 refine .append K W.rx (by omega) (λX Z L=>?_)
 have i2:=L.aw
 refine .ag rfl<|.z<|.mo rfl ?_
 refine .bW (SST.jK (c:=fT) (ok:=λ_=>True) X (w++j) Z _ L (by simp;omega) rfl (λ_ _=>trivial) qQ.so) (λu T3 hu=>?_)
 obtain⟨rfl,d,a2,S,a6⟩:=hu
 have a8:=S.length_eq
 rw[ad6]at a8
 have V:=uF d (a6.ordered.imp λ{a b} N=>by rw[wa]at N;exact N)
 have a9:=rD d
 have Q:∀s,s∈eR d↔s∈w\/s∈j:=λs=>by rw[rE,S.mem_iff,List.mem_append]
 refine .z<|.mo rfl ?_
 refine .bW (uC X d T3 _ a2 (by omega)) (λu E D=>?_)
 have i4:=D.aw
 refine .ag rfl<|.z<|.mo rfl<|.q (.ec D) ?_
 refine .q .gtr<|.zn ?_
 refine .cond rfl (λt=>?_) λt=>?_
 have a4:eR d≠[]:=λe=>by rw[e]at t;simp at t
 refine .region<|.mo rfl<|.nc rfl<|.fa rfl<|.lo rfl<|.mo rfl<|.mo rfl ?_
 refine .q .dI ?_
 refine .mo rfl ?_
 refine .update (u:=((u,eR d):WS)) i rfl (show _=some (Value.agg (hK (user,aE)).toArray)from rfl) rfl (λG a1 _=>?_)
 refine .nil<|eh _ .none (.one [1,1,1,1,1,0] _) ?_
 ·refine⟨((g,.cells [y,.map (some r),pT q].toArray 132 (0,0))::(G++(m++n)))++(k++E),by simp[take,aZ],rfl,eR d,V,Q,by omega,?_⟩
  rw[if_neg a4]
  refine⟨k++E,_,rfl,_,_,_,M,q,G,m,n,rfl,⟨a1,λp hp=>?_,?_⟩,J,λp hp=>?_,hA,hQ⟩
  ·rcases o2 i.nd hp with hp|rfl
   ·exact(I p hp).mono λb o f=>mO f
   ·exact D.eg.mono λb o f=>oa f
  ·exact(mg (nb i.nd)).trans (by rw[mh];exact mL H)
  ·obtain⟨q1,q2,q3⟩:=hI p hp
   exact⟨q1,q2.mono λb o f=>mO f,q3⟩
 have a5:eR d=[]:=by
  rcases Nat.eq_zero_or_pos (eR d).length with h9|h9
  ·exact List.length_eq_zero_iff.1 h9
  ·exfalso
   have:=bo t
   omega
 refine .skip<|eh _ .none (.one [1,1,1,1,1] _) ?_
 ·refine⟨((g,.cells [y,.map (some r),pT q].toArray 132 (0,0))::(F++(m++n)))++k,by simp[take,aZ],rfl,eR d,V,Q,by omega,?_⟩
  rw[if_pos a5]
  exact h0
theorem vK(g:Nat)(C:List (cB×List ByteArray))(A:List (ByteArray×bL))(T:ax)(h:GI g C A T)(user aE:ByteArray)(R:av)(i:∀p∈T,R p.1 p.2)(a:∀p∈C,p.2.length<=1000000):
  Spec prog 50 [pT g,.string user,.string aE] R [] λu H'=>∃T',H'=[T']/\OS 9 1 bB u ((aU (user,aE) C).getD []) T':=by
 obtain⟨j,_,rfl,c,t,N,M,q,O,Q,S,rfl,⟨f,D,B⟩,F,V,U,W⟩:=h
 obtain⟨d,rfl⟩:∃b,N=.map (some b):=by obtain⟨b,z,y,e,_⟩:=F;exact⟨b,e⟩
 have Z:One c:=⟨by obtain⟨b,z,y,e,_⟩:=f;subst e;rfl⟩
 have pq:PC R (pT g) [c,.map (some d),pT q]:=PC.of (E:=132) (fr:=(0,0)) (i (g,.cells [c,.map (some d),pT q].toArray 132 (0,0)) (by simp))
 have L:∀H',RM (Rx R H') (λk:cB=>.agg (hK k).toArray) (λp:WS=>p.1) c t:=λH'=>f.rm λp I=>.inl (i p (by simp[I]))
 have G:∀b o,eg j b o->R b o:=λb o a=>i (b,o) (by have:(b,o)∈j:=a.1;simp[this])
 obtain⟨s,r,K,n,m,_⟩:=rW f.nd D B (user,aE)
 have X:=n.aw
 have H:r.length<=1000000:=by
  rw[<-m]
  cases hm:aU (user,aE) C with
  |none=>simp
  |some x=>exact a _ (fH hm)
 rw[m]
 refine Spec.body func50 rfl results50 ntmps50 rfl ?_
 refine .sr<|.ag rfl<|.zs<|.sr<|.mo rfl ?_
 refine .aM (mc g d _ _ _) (λv J=>?_)
 subst J
 refine .q .not<|.zn<|.bZ<|.kn<|.sr<|.mo rfl<|.nc rfl<|.fa rfl<|.lo rfl<|.mo rfl<|.mo rfl ?_
 refine .q .dI ?_
 refine .q (.vZ (v:=s) (L _) rfl (show _=some (Value.agg (hK (user,aE)).toArray)from rfl) K) ?_
 refine .da (nm s r _ (n.mono λb o a=>.inl (G b o a)) H) (λv1 w l=>?_)
 have Y:=l.aw
 refine .az rfl ?_
 refine .ret (aR _ (.one (.tmp rfl)) (.one [0] _) ?_)
 ·exact⟨w,by simp[take],l⟩
def nA(M:List (ByteArray×GP))(k:ByteArray):bL:=((aU k M).map (·.2)).getD bL.zero
theorem Kd{M:List (ByteArray×GP)}(a:(M.map (·.1)).Nodup):(M.map (·.1)).map (nA M)=M.map (·.2.2):=by
 rw[ad5]
 refine ad7 λp b=>?_
 have:aU p.1 M=some p.2:=gC a (by exact b)
 simp[nA,this]
abbrev eP(ps:List GP):List bL:=ps.map (·.2)
def nF(L:List bL):List (ByteArray×bL):=L.map λt=>(t.text,t)
theorem KA{A:List (ByteArray×bL)}(h:∀p∈A,p.1=p.2.text):nF (A.map (·.2))=A:=by
 unfold nF
 rw[ad5]
 conv=>rhs;rw[<-List.map_id A]
 exact ad7 λp a=>by rw[Function.comp, <-h p a];rfl
theorem vD(g:Nat)(C:List (cB×List ByteArray))(A:List (ByteArray×bL))(T:ax)(h:GI g C A T)(hl:A.length<=1000000)(R:av)(F:∀p∈T,R p.1 p.2):
  Spec prog 54 [pT g] R [] λv H'=>∃T',H'=[T']/\∃ps To Ti,T'=To++Ti/\OS 123 9 bO v ps To/\(∀p∈ps,dq (eg Ti) p)/\(nF (eP ps)).Perm A/\ps.Pairwise (λp q=>cp q.2.text p.2.text=false):=by
 have b2:=h.keys
 obtain⟨L,_,rfl,H,MC,vm,M,q,Tc,Tm,Tq,rfl,⟨a6,b8,hC⟩,j,hI,hA,hQ⟩:=h
 obtain⟨f,rfl⟩:∃b,vm=.map (some b):=by obtain⟨b,es,a5,r,_⟩:=j;exact⟨b,r⟩
 have ic:One H:=⟨by obtain⟨b,es,a5,r,_⟩:=a6;subst r;rfl⟩
 have pq:PC R (pT g) [H,.map (some f),pT q]:=PC.of (E:=132) (fr:=(0,0)) (F (g,.cells [H,.map (some f),pT q].toArray 132 (0,0)) (by simp))
 have rm:RM R (λs:ByteArray=>.string s) (λp:GP=>.agg (bO p).toArray) (.map (some f)) M:=j.rm λp hp=>F p (by simp[hp])
 have hT:∀b o,eg L b o->R b o:=λb o d=>F (b,o) (by have:(b,o)∈L:=d.1;simp[this])
 have Q:(M.map (·.2.2)).Perm (A.map (·.2)):=by
  have:=hA.map (·.2)
  unfold dP at this
  rw[ad5]at this
  exact this
 have b9:M.length=A.length:=by simpa using Q.length_eq
 refine Spec.dg (H':=[[],[]]) (by simp) ?_
 refine Spec.body func54 rfl results54 ntmps54 rfl ?_
 refine .sr<|.ag rfl<|.zs<|.sr<|.mo rfl ?_
 refine .aM (mc g f _ _ _) (λv G=>?_)
 subst G
 refine .q .not<|.zn<|.bZ<|.kn<|.sr<|.ag rfl<|.zs<|.sr<|.mo rfl<|.nc rfl<|.fa rfl<|.lo rfl ?_
 refine .range rm (λ_ _=>.inl) rfl (λit a3 b1=>?_)
 refine .zn<|.block ?_
 refine .loop (X:=List GP×List ByteArray×Value×ax×ax×ax) (λy=>(∀p∈y.1,dq (eg y.2.2.2.2.1) p)/\y.2.1.Nodup/\(eP y.1++y.2.1.map (nA M)).Perm (A.map (·.2))/\OS 123 9 bO y.2.2.1 y.1 y.2.2.2.1/\It R (λs:ByteArray=>.string s) (λp:GP=>.agg (bO p).toArray) (.map (some f)) M it y.2.1 y.2.2.2.2.2) (λy=>[(0,pT g),(3,y.2.2.1),(13,it)]) (λy=>[y.2.2.2.2.2,y.2.2.2.1,y.2.2.2.2.1]) (λy=>y.2.1.length) ([],M.map (·.1),sZ,[],[],a3) ⟨by simp,j.nd,by rw[Kd j.nd];exact Q,OS.nil,b1⟩ kE.c.c.c rH ?_
 rintro⟨ps,b6,vo,To,n,Ti⟩ ⟨m,D,i,l,Y⟩
 simp only at m D i l Y⊢
 have i2:=l.aw
 have a1:=i.length_eq
 simp only[ad6,List.length_map]at a1
 refine .sr ?_
 refine .nf Y (λ_ _=>.inl) rfl (λb rest a4 hf ht=>?_)
 refine .q .extract<|.zs ?_
 refine .cond rfl (λw=>?_) λw=>?_
 obtain⟨k,⟨I,e⟩,hk,a0,Z⟩:=ht w
 obtain⟨_,V,a8⟩:=hI (k,(I,e)) (fH a0)
 have i3:bJ (bO (I,e)):=⟨V.bG⟩
 have b0:nA M k=e:=by simp[nA,a0]
 have W:=filter_one D hk
 refine .kn<|.block<|.sr ?_
 refine .q (.entry Z (λ_ _=>.inl) rfl) ?_
 refine .q .extract ?_
 refine .cN (λb5=>?_)
 refine .ct rfl rfl<|.zn<|.region<|.mo rfl<|.q (.bK rfl) ?_
 refine .da (qt I e _ (V.mono λb o d=>.inl (hT b o d)) a8) (λv T1 G=>?_)
 obtain⟨J,rfl,B⟩:=G
 have i4:bJ (bO (J,e)):=⟨B.bG⟩
 refine .fP (λb7=>?_)
 refine .append l (RS.lits (xs:=[((J,e):GP)]) rfl (by simp[bO]) (by have:=B.bG;simpa using this)) (by simp;omega) (λv5 T5 a7=>?_)
 refine .ag rfl<|.nil<|bz ?_
 ·refine bf (ps++[(J,e)],b6.filter λk'=>decide (k'≠k),v5,T5,T1++n,a4) ⟨λp hp=>?_,D.sublist List.filter_sublist,?_,a7,Z.it⟩ ?_ kE.c.c.c ((aI [3,3,1,2]).trans (aT.bu (by simp[take,aZ])))
  ·simp only
   rcases List.mem_append.1 hp with hp|hp
   ·exact(m p hp).mono λb o d=>oa d
   ·simp only[List.mem_singleton]at hp;subst hp
    exact B.mono λb o d=>mO d
  ·simp only
   refine List.Perm.trans ?_ i
   rw[eP,List.map_append,List.append_assoc]
   refine List.Perm.append_left _ ?_
   have:=(W.map (nA M)).symm
   rw[List.map_cons,b0]at this
   exact this
  ·have:=W.length_eq
   simp only[List.length_cons]at this
   simp only;omega
 have b4:=hf w
 subst b4
 simp only[List.map_nil,List.append_nil]at i
 have a9:gi prog 126 [] R (λp:GP=>Value.agg (bO p).toArray) dU ra:=λx y hx hy R2 _=>Kt x y R2 hx hy
 refine .exit<|bD<|bH<|bF<|aD<|.sr<|.mo rfl ?_
 refine .bW (SGC.jK (caps:=[]) vo ps To _ l (by simp at a1;omega) a9 (λp hp=>(m p hp).bG) vC) (λu K hu=>?_)
 obtain⟨rfl,ys,S,a2,b3⟩:=hu
 have i5:=S.aw
 refine .z<|.mo rfl<|.az rfl ?_
 refine .ret (aR _ (.one (.tmp rfl)) ((aI [1,1]).trans (aT.bu (H':=[K++n]) (by simp[take,aZ]))) ?_)
 ·refine⟨_,rfl,ys,K,n,rfl,S,λp hp=>m p (a2.mem_iff.1 hp),?_,b3.ordered.imp λ{a b} U=>by rw[lp]at U;exact U⟩
  have N:=((a2.map (·.2)).trans i).map λt:bL=>(t.text,t)
  have O:=KA b2
  unfold nF at O
  rw[O]at N
  exact N
def nD(MC:List (cB×WS))(k:cB):cB×List ByteArray:=(k,((aU k MC).map (·.2)).getD [])
theorem Ks{a:List (cB×WS)}(b:(a.map (·.1)).Nodup):(a.map (·.1)).map (nD a)=dP (λp:WS=>p.2) a:=by
 unfold dP
 rw[ad5]
 refine ad7 λp c=>?_
 have:aU p.1 a=some p.2:=gC b (by exact c)
 simp[nD,this]
theorem vj{κ:Type} [DecidableEq κ]{k:κ}:∀{l:List κ},l.Nodup->k∈l->l.Perm (k::l.filter λk'=>decide (k'≠k))
 |[],_,h=>by cases h
 |x::l,hn,h=>by
  have b:=List.nodup_cons.1 hn
  by_cases a:x=k
  ·subst a
   rw[List.filter_cons_of_neg (by simp),List.filter_eq_self.2 λy d=>by
    have c:y≠x:=λe=>b.1 (by rw[<-e];exact d)
    exact decide_eq_true c]
  ·rw[List.filter_cons_of_pos (by simp[a])]
   exact((vj b.2 ((ad4.1 h).resolve_left λe=>a e.symm)).cons x).trans (.swap _ _ _)
theorem Kv(g:Nat)(C:List (cB×List ByteArray))(A:List (ByteArray×bL))(T:ax)(h:GI g C A T)(hl:C.length<=1000000)(a:∀p∈C,p.2.length<=1000000)(R:av)(H:∀p∈T,R p.1 p.2):
  Spec prog 53 [pT g] R [] λv H'=>∃T',H'=[T']/\∃ps To Ti,T'=To++Ti/\OS 118 3 ee v ps To/\(∀p∈ps,iE (eg Ti) p)/\(ps.map (·.2)).Perm C/\ps.Pairwise (λp q=>aA dx q p=false):=by
 obtain⟨K,_,rfl,j,e,vm,M,q,Tc,Tm,Tq,rfl,⟨l,a3,B⟩,hM,hI,hA,hQ⟩:=h
 obtain⟨s,rfl⟩:∃b,vm=.map (some b):=by obtain⟨b,es,a2,t,_⟩:=hM;exact⟨b,t⟩
 have ic:One j:=⟨by obtain⟨b,es,a2,t,_⟩:=l;subst t;rfl⟩
 have pq:PC R (pT g) [j,.map (some s),pT q]:=PC.of (E:=132) (fr:=(0,0)) (H (g,.cells [j,.map (some s),pT q].toArray 132 (0,0)) (by simp))
 have rm:RM R (λk:cB=>.agg (hK k).toArray) (λp:WS=>p.1) j e:=l.rm λp hp=>H p (by simp[hp])
 have hT:∀b o,eg K b o->R b o:=λb o a=>H (b,o) (by have:(b,o)∈K:=a.1;simp[this])
 have b3:e.length=C.length:=by simpa[mK]using B.length_eq
 refine Spec.dg (H':=[[],[]]) (by simp) ?_
 refine Spec.body func53 rfl results53 ntmps53 rfl ?_
 refine .sr<|.ag rfl<|.zs<|.sr<|.mo rfl ?_
 refine .aM (mc g s _ _ _) (λv hv=>?_)
 subst hv
 refine .q .not<|.zn<|.bZ<|.kn<|.sr<|.ag rfl<|.zs<|.sr<|.mo rfl<|.nc rfl<|.fa rfl<|.lo rfl ?_
 refine .range rm (λ_ _=>.inl) rfl (λY a0 a7=>?_)
 refine .zn<|.block ?_
 refine .loop (X:=List NP×List cB×Value×ax×ax×ax) (λy=>(∀p∈y.1,iE (eg y.2.2.2.2.1) p)/\y.2.1.Nodup/\(y.1.map (·.2)++y.2.1.map (nD e)).Perm C/\OS 118 3 ee y.2.2.1 y.1 y.2.2.2.1/\It R (λk:cB=>.agg (hK k).toArray) (λp:WS=>p.1) j e Y y.2.1 y.2.2.2.2.2) (λy=>[(0,pT g),(3,y.2.2.1),(13,Y)]) (λy=>[y.2.2.2.2.2,y.2.2.2.1,y.2.2.2.2.1]) (λy=>y.2.1.length) ([],e.map (·.1),sZ,[],[],a0) ⟨by simp,l.nd,by rw[Ks l.nd];exact B,OS.nil,a7⟩ kE.c.c.c rH ?_
 rintro⟨ps,b1,vo,To,r,Ti⟩ ⟨n,G,i,m,S⟩
 simp only at n G i m S⊢
 have i2:=m.aw
 have V:=i.length_eq
 simp only[ad6,List.length_map]at V
 refine .sr ?_
 refine .nf S (λ_ _=>.inl) rfl (λb rest a1 hf ht=>?_)
 refine .q .extract<|.zs ?_
 refine .cond rfl (λw=>?_) λw=>?_
 obtain⟨k,⟨Z,d⟩,hk,F,U⟩:=ht w
 have D:=a3 (k,(Z,d)) (fH F)
 simp only at D
 have i3:=D.aw
 have a6:nD e k=(k,d):=by simp[nD,F]
 have Q:=vj G hk
 have a8:d.length<=1000000:=a (k,d) (B.mem_iff.1 (oW (f:=λp:WS=>p.2) (fH F)))
 refine .kn<|.block<|.sr ?_
 refine .q (.entry U (λ_ _=>.inl) rfl) ?_
 refine .q .extract<|.q .extract ?_
 refine .cN (λb4=>?_)
 refine .ct rfl rfl<|.az rfl<|.cW [9] mixed ?_
 refine .tO 0 rfl .move<|.tO 1 rfl (.fieldAddr rfl)<|.tO 2 rfl (.bN rfl)<|.tO 3 rfl (.fieldAddr rfl)<|.tO 4 rfl (.bN rfl)<|.tO 5 rfl .move ?_
 refine .sT 6 rfl ?_
 refine .da (nm Z d _ (D.mono λb o a=>.inl (hT b o a)) a8) (λw1 I L=>?_)
 obtain⟨p1,k1,rfl,_⟩:=L.shape
 have O:iE (eg I) ((_,(k,d)):NP):=L.eg
 refine .nil (Next.sub ?_)
 refine .tO 7 rfl .dI ?_
 refine .sT 8 rfl ?_
 refine .fP (λb2=>?_)
 refine .nil (Next.sub ?_)
 refine .sT 9 rfl ?_
 refine .append m (RS.lits (xs:=[((_,(k,d)):NP)]) rfl (by simp[ee]) (by have:=O.bG;simpa using this)) (by simp;omega) (λv5 T5 a4=>?_)
 refine .nil (Next.mod rfl ?_)
 refine .tK 10 rfl .assign ?_
 refine RA.nil (by kernel_rfl) ?_
 refine bz ?_
 ·refine bf (ps++[(_,(k,d))],b1.filter λk'=>decide (k'≠k),v5,T5,I++r,a1) ⟨λp hp=>?_,G.sublist List.filter_sublist,?_,a4,U.it⟩ ?_ kE.c.c.c ((aI [3,3,1,2]).trans (aT.bu (by simp[take,aZ])))
  ·simp only
   rcases List.mem_append.1 hp with hp|hp
   ·exact(n p hp).mono λb o a=>oa a
   ·simp only[List.mem_singleton]at hp;subst hp
    exact O.mono λb o a=>mO a
  ·simp only
   refine List.Perm.trans ?_ i
   rw[List.map_append,List.append_assoc]
   refine List.Perm.append_left _ ?_
   have:=(Q.map (nD e)).symm
   rw[List.map_cons,a6]at this
   exact this
  ·have:=Q.length_eq
   simp only[List.length_cons]at this
   simp only;omega
 have b0:=hf w
 subst b0
 simp only[List.map_nil,List.append_nil]at i
 have a5:gi prog 123 [] R (λp:NP=>Value.agg (ee p).toArray) dx rb:=λx y hx hy R2 _=>zk x y R2 hx hy
 refine .exit<|bD<|bH<|bF<|aD<|.sr<|.mo rfl ?_
 refine .bW (SGN.jK (caps:=[]) vo ps To _ m (by simp at V;omega) a5 (λp hp=>(n p hp).bG) qy.so) (λu J hu=>?_)
 obtain⟨rfl,ys,N,W,a9⟩:=hu
 have i5:=N.aw
 refine .z<|.mo rfl<|.az rfl ?_
 refine .ret (aR _ (.one (.tmp rfl)) ((aI [1,1]).trans (aT.bu (H':=[J++r]) (by simp[take,aZ]))) ?_)
 ·exact⟨_,rfl,ys,J,r,rfl,N,λp hp=>n p (W.mem_iff.1 hp),(W.map (·.2)).trans i,a9.ordered⟩
theorem OU{a b:cB}:mW a b<0↔cp a.1 b.1=true\/(a.1=b.1/\cp a.2 b.2=true):=by
 unfold mW
 rw[nS,nS,jI,jI, <-nX]
 simp only[gq]
 by_cases c:fT a.1 b.1=0
 ·rw[if_pos c]
  by_cases d:fT a.2 b.2=0
  ·rw[if_pos d];omega
  ·rw[if_neg d];omega
 ·rw[if_neg c];omega
def tD(cs:List (cB×List ByteArray)):Prop:=(∀p∈cs,p.2≠[]/\gR p.2)/\cs.Pairwise (λa b=>mW a.1 b.1<0)
def tE(ts:List bL):Prop:=ts.Pairwise (λa b=>cp a.text b.text=true)/\ts.length<=4096
instance(cs:List (cB×List ByteArray)):Decidable (tD cs):=by unfold tD;infer_instance
instance(ts:List bL):Decidable (tE ts):=by unfold tE;infer_instance
end Go.Proofs.YtkkmbiojicgobaaGreatDoor
