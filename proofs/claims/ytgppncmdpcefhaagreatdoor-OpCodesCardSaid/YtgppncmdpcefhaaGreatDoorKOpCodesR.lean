/- What the law 'OpCodes' uses. No condition. -/
import Derived.Test.YtgppncmdpcefhaaGreatDoorKOpCodesB
import Derived.Test.YtgppncmdpcefhaaGreatDoorKOpCodesH
import Derived.Test.YtgppncmdpcefhaaGreatDoorKOpCodesN
import Derived.Test.YtgppncmdpcefhaaGreatDoorKOpCodesO
import Derived.Test.YtgppncmdpcefhaaGreatDoorKOpCodesP
import Derived.Test.YtgppncmdpcefhaaGreatDoorKOpCodesQ
namespace Go.Proofs.YtgppncmdpcefhaaGreatDoor
set_option linter.defProp false
def ac8:=@List.map_map
def ac9:=@List.map_congr_left
open Tryz
set_option linter.unusedVariables false
set_option maxRecDepth 4000
def jP(M:List (ByteArray×GP))(k:ByteArray):di:=((dl k M).map (·.2)).getD di.zero
theorem B7{M:List (ByteArray×GP)}(a:(M.map (·.1)).Nodup):(M.map (·.1)).map (jP M)=M.map (·.2.2):=by
 rw[ac8]
 refine ac9 λp b=>?_
 have:dl p.1 M=some p.2:=gB a (by exact b)
 simp[jP,this]
abbrev lI(ps:List GP):List di:=ps.map (·.2)
def kJ(L:List di):List (ByteArray×di):=L.map λt=>(t.text,t)
theorem Cs{A:List (ByteArray×di)}(h:∀p∈A,p.1=p.2.text):kJ (A.map (·.2))=A:=by
 unfold kJ
 rw[ac8]
 conv=>rhs;rw[<-List.map_id A]
 exact ac9 λp a=>by rw[Function.comp, <-h p a];rfl
theorem Cl(g:Nat)(C:List (eg×List ByteArray))(A:List (ByteArray×di))(T:ax)(h:GI g C A T)(hl:A.length<=1000000)(R:aC)(F:∀p∈T,R p.1 p.2):
  Spec prog 80 [pT g] R [] λv H'=>∃T',H'=[T']/\∃ps To Ti,T'=To++Ti/\OS 137 9 bA v ps To/\(∀p∈ps,gH (ee Ti) p)/\(kJ (lI ps)).Perm A/\ps.Pairwise (λp q=>dW q.2.text p.2.text=false):=by
 have b2:=h.keys
 obtain⟨L,_,rfl,H,MC,vm,M,q,Tc,Tm,Tq,rfl,⟨a6,b8,hC⟩,j,hI,hA,hQ⟩:=h
 obtain⟨f,rfl⟩:∃b,vm=.map (some b):=by obtain⟨b,es,a5,r,_⟩:=j;exact⟨b,r⟩
 have ic:One H:=⟨by obtain⟨b,es,a5,r,_⟩:=a6;subst r;rfl⟩
 have pq:PC R (pT g) [H,.map (some f),pT q]:=PC.of (E:=230) (fr:=(0,0)) (F (g,.cells [H,.map (some f),pT q].toArray 230 (0,0)) (by simp))
 have rm:RM R (λs:ByteArray=>.string s) (λp:GP=>.agg (bA p).toArray) (.map (some f)) M:=j.rm λp hp=>F p (by simp[hp])
 have hT:∀b o,ee L b o->R b o:=λb o d=>F (b,o) (by have:(b,o)∈L:=d.1;simp[this])
 have Q:(M.map (·.2.2)).Perm (A.map (·.2)):=by
  have:=hA.map (·.2)
  unfold dF at this
  rw[ac8]at this
  exact this
 have b9:M.length=A.length:=by simpa using Q.length_eq
 refine Spec.ej (H':=[[],[]]) (by simp) ?_
 refine Spec.body func80 rfl results80 ntmps80 rfl ?_
 refine .sr<|.ag rfl<|.zs<|.sr<|.mo rfl ?_
 refine .br (ni g f _ _ _) (λv G=>?_)
 subst G
 refine .q .not<|.zn<|.bD<|.kn<|.sr<|.ag rfl<|.zs<|.sr<|.mo rfl<|.nc rfl<|.fa rfl<|.lo rfl ?_
 refine .range rm (λ_ _=>.inl) rfl (λit a3 b1=>?_)
 refine .zn<|.block ?_
 refine .loop (X:=List GP×List ByteArray×Value×ax×ax×ax) (λy=>(∀p∈y.1,gH (ee y.2.2.2.2.1) p)/\y.2.1.Nodup/\(lI y.1++y.2.1.map (jP M)).Perm (A.map (·.2))/\OS 137 9 bA y.2.2.1 y.1 y.2.2.2.1/\It R (λs:ByteArray=>.string s) (λp:GP=>.agg (bA p).toArray) (.map (some f)) M it y.2.1 y.2.2.2.2.2) (λy=>[(0,pT g),(3,y.2.2.1),(13,it)]) (λy=>[y.2.2.2.2.2,y.2.2.2.1,y.2.2.2.2.1]) (λy=>y.2.1.length) ([],M.map (·.1),sZ,[],[],a3) ⟨by simp,j.nd,by rw[B7 j.nd];exact Q,OS.nil,b1⟩ kE.c.c.c rH ?_
 rintro⟨ps,b6,vo,To,n,Ti⟩ ⟨m,D,i,l,Y⟩
 simp only at m D i l Y⊢
 have i2:=l.aB
 have a1:=i.length_eq
 simp only[List.length_append,List.length_map]at a1
 refine .sr ?_
 refine .kT Y (λ_ _=>.inl) rfl (λb rest a4 hf ht=>?_)
 refine .q .extract<|.zs ?_
 refine .cond rfl (λw=>?_) λw=>?_
 obtain⟨k,⟨I,e⟩,hk,a0,Z⟩:=ht w
 obtain⟨_,V,a8⟩:=hI (k,(I,e)) (jy a0)
 have i3:cq (bA (I,e)):=⟨V.cL⟩
 have b0:jP M k=e:=by simp[jP,a0]
 have W:=filter_one D hk
 refine .kn<|.block<|.sr ?_
 refine .q (.entry Z (λ_ _=>.inl) rfl) ?_
 refine .q .extract ?_
 refine .cZ (λb5=>?_)
 refine .cW rfl rfl<|.zn<|.region<|.mo rfl<|.q (.aD rfl) ?_
 refine .bS (Cn I e _ (V.mono λb o d=>.inl (hT b o d)) a8) (λv T1 G=>?_)
 obtain⟨J,rfl,B⟩:=G
 have i4:cq (bA (J,e)):=⟨B.cL⟩
 refine .gh (λb7=>?_)
 refine .append l (RS.lits (xs:=[((J,e):GP)]) rfl (by simp[bA]) (by have:=B.cL;simpa using this)) (by simp;omega) (λv5 T5 a7=>?_)
 refine .ag rfl<|.nil<|bd ?_
 ·refine aT (ps++[(J,e)],b6.filter λk'=>decide (k'≠k),v5,T5,T1++n,a4) ⟨λp hp=>?_,D.sublist List.filter_sublist,?_,a7,Z.it⟩ ?_ kE.c.c.c ((cu [3,3,1,2]).trans (bJ.cY (by simp[take,bF])))
  ·simp only
   rcases List.mem_append.1 hp with hp|hp
   ·exact(m p hp).mono λb o d=>nR d
   ·simp only[List.mem_singleton]at hp;subst hp
    exact B.mono λb o d=>nQ d
  ·simp only
   refine List.Perm.trans ?_ i
   rw[lI,List.map_append,List.append_assoc]
   refine List.Perm.append_left _ ?_
   have:=(W.map (jP M)).symm
   rw[List.map_cons,b0]at this
   exact this
  ·have:=W.length_eq
   simp only[List.length_cons]at this
   simp only;omega
 have b4:=hf w
 subst b4
 simp only[List.map_nil,List.append_nil]at i
 have a9:bU prog 157 [] R (λp:GP=>Value.agg (bA p).toArray) kI mJ:=λx y hx hy R2 _=>Ck x y R2 hx hy
 refine .exit<|aU<|aY<|aW<|aF<|.sr<|.mo rfl ?_
 refine .aR (SGC.iL (caps:=[]) vo ps To _ l (by simp at a1;omega) a9 (λp hp=>(m p hp).cL) Cj) (λu K hu=>?_)
 obtain⟨rfl,ys,S,a2,b3⟩:=hu
 have i5:=S.aB
 refine .z<|.mo rfl<|.az rfl ?_
 refine .ret (ba _ (.one (.tmp rfl)) ((cu [1,1]).trans (bJ.cY (H':=[K++n]) (by simp[take,bF]))) ?_)
 ·refine⟨_,rfl,ys,K,n,rfl,S,λp hp=>m p (a2.mem_iff.1 hp),?_,b3.ordered.imp λ{a b} U=>by rw[lP]at U;exact U⟩
  have N:=((a2.map (·.2)).trans i).map λt:di=>(t.text,t)
  have O:=Cs b2
  unfold kJ at O
  rw[O]at N
  exact N
def jR(MC:List (eg×WS))(k:eg):eg×List ByteArray:=(k,((dl k MC).map (·.2)).getD [])
theorem Ci{a:List (eg×WS)}(b:(a.map (·.1)).Nodup):(a.map (·.1)).map (jR a)=dF (λp:WS=>p.2) a:=by
 unfold dF
 rw[ac8]
 refine ac9 λp c=>?_
 have:dl p.1 a=some p.2:=gB b (by exact c)
 simp[jR,this]
theorem oV{κ:Type} [DecidableEq κ]{k:κ}:∀{l:List κ},l.Nodup->k∈l->l.Perm (k::l.filter λk'=>decide (k'≠k))
 |[],_,h=>by cases h
 |x::l,hn,h=>by
  have b:=List.nodup_cons.1 hn
  by_cases a:x=k
  ·subst a
   rw[List.filter_cons_of_neg (by simp),List.filter_eq_self.2 λy d=>by
    have c:y≠x:=λe=>b.1 (by rw[<-e];exact d)
    exact decide_eq_true c]
  ·rw[List.filter_cons_of_pos (by simp[a])]
   exact((oV b.2 ((List.mem_cons.1 h).resolve_left λe=>a e.symm)).cons x).trans (.swap _ _ _)
theorem Cm(g:Nat)(C:List (eg×List ByteArray))(A:List (ByteArray×di))(T:ax)(h:GI g C A T)(hl:C.length<=1000000)(a:∀p∈C,p.2.length<=1000000)(R:aC)(H:∀p∈T,R p.1 p.2):
  Spec prog 77 [pT g] R [] λv H'=>∃T',H'=[T']/\∃ps To Ti,T'=To++Ti/\OS 129 3 bE v ps To/\(∀p∈ps,iS (ee Ti) p)/\(ps.map (·.2)).Perm C/\ps.Pairwise (λp q=>ap lT q p=false):=by
 obtain⟨K,_,rfl,j,e,vm,M,q,Tc,Tm,Tq,rfl,⟨l,a3,B⟩,hM,hI,hA,hQ⟩:=h
 obtain⟨s,rfl⟩:∃b,vm=.map (some b):=by obtain⟨b,es,a2,t,_⟩:=hM;exact⟨b,t⟩
 have ic:One j:=⟨by obtain⟨b,es,a2,t,_⟩:=l;subst t;rfl⟩
 have pq:PC R (pT g) [j,.map (some s),pT q]:=PC.of (E:=230) (fr:=(0,0)) (H (g,.cells [j,.map (some s),pT q].toArray 230 (0,0)) (by simp))
 have rm:RM R (λk:eg=>.agg (kB k).toArray) (λp:WS=>p.1) j e:=l.rm λp hp=>H p (by simp[hp])
 have hT:∀b o,ee K b o->R b o:=λb o a=>H (b,o) (by have:(b,o)∈K:=a.1;simp[this])
 have b3:e.length=C.length:=by simpa[CD]using B.length_eq
 refine Spec.ej (H':=[[],[]]) (by simp) ?_
 refine Spec.body func77 rfl results77 ntmps77 rfl ?_
 refine .sr<|.ag rfl<|.zs<|.sr<|.mo rfl ?_
 refine .br (ni g s _ _ _) (λv hv=>?_)
 subst hv
 refine .q .not<|.zn<|.bD<|.kn<|.sr<|.ag rfl<|.zs<|.sr<|.mo rfl<|.nc rfl<|.fa rfl<|.lo rfl ?_
 refine .range rm (λ_ _=>.inl) rfl (λY a0 a7=>?_)
 refine .zn<|.block ?_
 refine .loop (X:=List NP×List eg×Value×ax×ax×ax) (λy=>(∀p∈y.1,iS (ee y.2.2.2.2.1) p)/\y.2.1.Nodup/\(y.1.map (·.2)++y.2.1.map (jR e)).Perm C/\OS 129 3 bE y.2.2.1 y.1 y.2.2.2.1/\It R (λk:eg=>.agg (kB k).toArray) (λp:WS=>p.1) j e Y y.2.1 y.2.2.2.2.2) (λy=>[(0,pT g),(3,y.2.2.1),(13,Y)]) (λy=>[y.2.2.2.2.2,y.2.2.2.1,y.2.2.2.2.1]) (λy=>y.2.1.length) ([],e.map (·.1),sZ,[],[],a0) ⟨by simp,l.nd,by rw[Ci l.nd];exact B,OS.nil,a7⟩ kE.c.c.c rH ?_
 rintro⟨ps,b1,vo,To,r,Ti⟩ ⟨n,G,i,m,S⟩
 simp only at n G i m S⊢
 have i2:=m.aB
 have V:=i.length_eq
 simp only[List.length_append,List.length_map]at V
 refine .sr ?_
 refine .kT S (λ_ _=>.inl) rfl (λb rest a1 hf ht=>?_)
 refine .q .extract<|.zs ?_
 refine .cond rfl (λw=>?_) λw=>?_
 obtain⟨k,⟨Z,d⟩,hk,F,U⟩:=ht w
 have D:=a3 (k,(Z,d)) (jy F)
 simp only at D
 have i3:=D.aB
 have a6:jR e k=(k,d):=by simp[jR,F]
 have Q:=oV G hk
 have a8:d.length<=1000000:=a (k,d) (B.mem_iff.1 (kP (f:=λp:WS=>p.2) (jy F)))
 refine .kn<|.block<|.sr ?_
 refine .q (.entry U (λ_ _=>.inl) rfl) ?_
 refine .q .extract<|.q .extract ?_
 refine .cZ (λb4=>?_)
 refine .cW rfl rfl<|.az rfl<|.bK [9] mixed ?_
 refine .tO 0 rfl .move<|.tO 1 rfl (.fieldAddr rfl)<|.tO 2 rfl (.bN rfl)<|.tO 3 rfl (.fieldAddr rfl)<|.tO 4 rfl (.bN rfl)<|.tO 5 rfl .move ?_
 refine .sT 6 rfl ?_
 refine .bS (lg Z d _ (D.mono λb o a=>.inl (hT b o a)) a8) (λw1 I L=>?_)
 obtain⟨p1,k1,rfl,_⟩:=L.shape
 have O:iS (ee I) ((_,(k,d)):NP):=L.ee
 refine .nil (Next.sub ?_)
 refine .tO 7 rfl .dA ?_
 refine .sT 8 rfl ?_
 refine .gh (λb2=>?_)
 refine .nil (Next.sub ?_)
 refine .sT 9 rfl ?_
 refine .append m (RS.lits (xs:=[((_,(k,d)):NP)]) rfl (by simp[bE]) (by have:=O.cL;simpa using this)) (by simp;omega) (λv5 T5 a4=>?_)
 refine .nil (Next.mod rfl ?_)
 refine .tK 10 rfl .assign ?_
 refine RA.nil (by kernel_rfl) ?_
 refine bd ?_
 ·refine aT (ps++[(_,(k,d))],b1.filter λk'=>decide (k'≠k),v5,T5,I++r,a1) ⟨λp hp=>?_,G.sublist List.filter_sublist,?_,a4,U.it⟩ ?_ kE.c.c.c ((cu [3,3,1,2]).trans (bJ.cY (by simp[take,bF])))
  ·simp only
   rcases List.mem_append.1 hp with hp|hp
   ·exact(n p hp).mono λb o a=>nR a
   ·simp only[List.mem_singleton]at hp;subst hp
    exact O.mono λb o a=>nQ a
  ·simp only
   refine List.Perm.trans ?_ i
   rw[List.map_append,List.append_assoc]
   refine List.Perm.append_left _ ?_
   have:=(Q.map (jR e)).symm
   rw[List.map_cons,a6]at this
   exact this
  ·have:=Q.length_eq
   simp only[List.length_cons]at this
   simp only;omega
 have b0:=hf w
 subst b0
 simp only[List.map_nil,List.append_nil]at i
 have a5:bU prog 154 [] R (λp:NP=>Value.agg (bE p).toArray) lT mL:=λx y hx hy R2 _=>rf x y R2 hx hy
 refine .exit<|aU<|aY<|aW<|aF<|.sr<|.mo rfl ?_
 refine .aR (SGN.iL (caps:=[]) vo ps To _ m (by simp at V;omega) a5 (λp hp=>(n p hp).cL) CS.so) (λu J hu=>?_)
 obtain⟨rfl,ys,N,W,a9⟩:=hu
 have i5:=N.aB
 refine .z<|.mo rfl<|.az rfl ?_
 refine .ret (ba _ (.one (.tmp rfl)) ((cu [1,1]).trans (bJ.cY (H':=[J++r]) (by simp[take,bF]))) ?_)
 ·exact⟨_,rfl,ys,J,r,rfl,N,λp hp=>n p (W.mem_iff.1 hp),(W.map (·.2)).trans i,a9.ordered⟩
end Go.Proofs.YtgppncmdpcefhaaGreatDoor
