/- What the law 'OpDecodes' uses. No condition. -/
import Derived.Test.YtgppncmdpcefhaaGreatDoorKOpDecodesB
import Derived.Test.YtgppncmdpcefhaaGreatDoorKOpDecodesH
import Derived.Test.YtgppncmdpcefhaaGreatDoorKOpDecodesN
import Derived.Test.YtgppncmdpcefhaaGreatDoorKOpDecodesO
import Derived.Test.YtgppncmdpcefhaaGreatDoorKOpDecodesP
import Derived.Test.YtgppncmdpcefhaaGreatDoorKOpDecodesQ
namespace Go.Proofs.YtgppncmdpcefhaaGreatDoor
set_option linter.defProp false
def ac4:=@List.map_map
def ac5:=@List.map_congr_left
open Tryz
set_option linter.unusedVariables false
set_option linter.unusedSimpArgs false
set_option maxRecDepth 4000
def jn(M:List (ByteArray×GP))(k:ByteArray):cY:=((da k M).map (·.2)).getD cY.zero
theorem Ah{M:List (ByteArray×GP)}(a:(M.map (·.1)).Nodup):(M.map (·.1)).map (jn M)=M.map (·.2.2):=by
 rw[ac4]
 refine ac5 λp b=>?_
 have:da p.1 M=some p.2:=gj a (by exact b)
 simp[jn,this]
abbrev ld(ps:List GP):List cY:=ps.map (·.2)
def kf(L:List cY):List (ByteArray×cY):=L.map λt=>(t.text,t)
theorem AB{A:List (ByteArray×cY)}(h:∀p∈A,p.1=p.2.text):kf (A.map (·.2))=A:=by
 unfold kf
 rw[ac4]
 conv=>rhs;rw[<-List.map_id A]
 exact ac5 λp a=>by rw[Function.comp, <-h p a];rfl
theorem Au(g:Nat)(C:List (dW×List ByteArray))(A:List (ByteArray×cY))(T:ay)(h:GI g C A T)(hl:A.length<=1000000)(R:aC)(F:∀p∈T,R p.1 p.2):
  Spec prog 80 [pT g] R [] λv H'=>∃T',H'=[T']/\∃ps To Ti,T'=To++Ti/\OS 137 9 bz v ps To/\(∀p∈ps,gp (dV Ti) p)/\(kf (ld ps)).Perm A/\ps.Pairwise (λp q=>dP q.2.text p.2.text=false):=by
 have b2:=h.keys
 obtain⟨L,_,rfl,H,MC,vm,M,q,Tc,Tm,Tq,rfl,⟨a6,b8,hC⟩,j,hI,hA,hQ⟩:=h
 obtain⟨f,rfl⟩:∃b,vm=.map (some b):=by obtain⟨b,es,a5,r,_⟩:=j;exact⟨b,r⟩
 have ic:One H:=⟨by obtain⟨b,es,a5,r,_⟩:=a6;subst r;rfl⟩
 have pq:PC R (pT g) [H,.map (some f),pT q]:=PC.of (E:=230) (fr:=(0,0)) (F (g,.cells [H,.map (some f),pT q].toArray 230 (0,0)) (by simp))
 have rm:RM R (λs:ByteArray=>.string s) (λp:GP=>.agg (bz p).toArray) (.map (some f)) M:=j.rm λp hp=>F p (by simp[hp])
 have hT:∀b o,dV L b o->R b o:=λb o d=>F (b,o) (by have:(b,o)∈L:=d.1;simp[this])
 have Q:(M.map (·.2.2)).Perm (A.map (·.2)):=by
  have:=hA.map (·.2)
  unfold dv at this
  rw[ac4]at this
  exact this
 have b9:M.length=A.length:=by simpa using Q.length_eq
 refine Spec.eg (H':=[[],[]]) (by simp) ?_
 refine Spec.body func80 rfl results80 ntmps80 rfl ?_
 refine .sr<|.ag rfl<|.zs<|.sr<|.mo rfl ?_
 refine .bx (mO g f _ _ _) (λv G=>?_)
 subst G
 refine .q .not<|.zn<|.bB<|.kn<|.sr<|.ag rfl<|.zs<|.sr<|.mo rfl<|.nc rfl<|.fa rfl<|.lo rfl ?_
 refine .range rm (λ_ _=>.inl) rfl (λit a3 b1=>?_)
 refine .zn<|.block ?_
 refine .loop (X:=List GP×List ByteArray×Value×ay×ay×ay) (λy=>(∀p∈y.1,gp (dV y.2.2.2.2.1) p)/\y.2.1.Nodup/\(ld y.1++y.2.1.map (jn M)).Perm (A.map (·.2))/\OS 137 9 bz y.2.2.1 y.1 y.2.2.2.1/\It R (λs:ByteArray=>.string s) (λp:GP=>.agg (bz p).toArray) (.map (some f)) M it y.2.1 y.2.2.2.2.2) (λy=>[(0,pT g),(3,y.2.2.1),(13,it)]) (λy=>[y.2.2.2.2.2,y.2.2.2.1,y.2.2.2.2.1]) (λy=>y.2.1.length) ([],M.map (·.1),sZ,[],[],a3) ⟨by simp,j.nd,by rw[Ah j.nd];exact Q,OS.nil,b1⟩ kE.c.c.c rH ?_
 rintro⟨ps,b6,vo,To,n,Ti⟩ ⟨m,D,i,l,Y⟩
 simp only at m D i l Y⊢
 have i2:=l.aF
 have a1:=i.length_eq
 simp only[List.length_append,List.length_map]at a1
 refine .sr ?_
 refine .kq Y (λ_ _=>.inl) rfl (λb rest a4 hf ht=>?_)
 refine .q .extract<|.zs ?_
 refine .cond rfl (λw=>?_) λw=>?_
 obtain⟨k,⟨I,e⟩,hk,a0,Z⟩:=ht w
 obtain⟨_,V,a8⟩:=hI (k,(I,e)) (iZ a0)
 have i3:cB (bz (I,e)):=⟨V.dx⟩
 have b0:jn M k=e:=by simp[jn,a0]
 have W:=filter_one D hk
 refine .kn<|.block<|.sr ?_
 refine .q (.entry Z (λ_ _=>.inl) rfl) ?_
 refine .q .extract ?_
 refine .dM (λb5=>?_)
 refine .dA rfl rfl<|.zn<|.region<|.mo rfl<|.q (.aD rfl) ?_
 refine .bY (Aw I e _ (V.mono λb o d=>.inl (hT b o d)) a8) (λv T1 G=>?_)
 obtain⟨J,rfl,B⟩:=G
 have i4:cB (bz (J,e)):=⟨B.dx⟩
 refine .iQ (λb7=>?_)
 refine .append l (RS.lits (xs:=[((J,e):GP)]) rfl (by simp[bz]) (by have:=B.dx;simpa using this)) (by simp;omega) (λv5 T5 a7=>?_)
 refine .ag rfl<|.nil<|bg ?_
 ·refine aS (ps++[(J,e)],b6.filter λk'=>decide (k'≠k),v5,T5,T1++n,a4) ⟨λp hp=>?_,D.sublist List.filter_sublist,?_,a7,Z.it⟩ ?_ kE.c.c.c ((cw [3,3,1,2]).trans (bJ.cW (by simp[take,bM])))
  ·simp only
   rcases List.mem_append.1 hp with hp|hp
   ·exact(m p hp).mono λb o d=>nm d
   ·simp only[List.mem_singleton]at hp;subst hp
    exact B.mono λb o d=>nl d
  ·simp only
   refine List.Perm.trans ?_ i
   rw[ld,List.map_append,List.append_assoc]
   refine List.Perm.append_left _ ?_
   have:=(W.map (jn M)).symm
   rw[List.map_cons,b0]at this
   exact this
  ·have:=W.length_eq
   simp only[List.length_cons]at this
   simp only;omega
 have b4:=hf w
 subst b4
 simp only[List.map_nil,List.append_nil]at i
 have a9:bR prog 157 [] R (λp:GP=>Value.agg (bz p).toArray) ke me:=λx y hx hy R2 _=>At x y R2 hx hy
 refine .exit<|aT<|aW<|aU<|aI<|.sr<|.mo rfl ?_
 refine .aQ (SGC.il (caps:=[]) vo ps To _ l (by simp at a1;omega) a9 (λp hp=>(m p hp).dx) As) (λu K hu=>?_)
 obtain⟨rfl,ys,S,a2,b3⟩:=hu
 have i5:=S.aF
 refine .z<|.mo rfl<|.az rfl ?_
 refine .ret (bb _ (.one (.tmp rfl)) ((cw [1,1]).trans (bJ.cW (H':=[K++n]) (by simp[take,bM]))) ?_)
 ·refine⟨_,rfl,ys,K,n,rfl,S,λp hp=>m p (a2.mem_iff.1 hp),?_,b3.ordered.imp λ{a b} U=>by rw[lm]at U;exact U⟩
  have N:=((a2.map (·.2)).trans i).map λt:cY=>(t.text,t)
  have O:=AB b2
  unfold kf at O
  rw[O]at N
  exact N
def jq(MC:List (dW×WS))(k:dW):dW×List ByteArray:=(k,((da k MC).map (·.2)).getD [])
theorem Ar{a:List (dW×WS)}(b:(a.map (·.1)).Nodup):(a.map (·.1)).map (jq a)=dv (λp:WS=>p.2) a:=by
 unfold dv
 rw[ac4]
 refine ac5 λp c=>?_
 have:da p.1 a=some p.2:=gj b (by exact c)
 simp[jq,this]
theorem nY{κ:Type} [DecidableEq κ]{k:κ}:∀{l:List κ},l.Nodup->k∈l->l.Perm (k::l.filter λk'=>decide (k'≠k))
 |[],_,h=>by cases h
 |x::l,hn,h=>by
  have b:=List.nodup_cons.1 hn
  by_cases a:x=k
  ·subst a
   rw[List.filter_cons_of_neg (by simp),List.filter_eq_self.2 λy d=>by
    have c:y≠x:=λe=>b.1 (by rw[<-e];exact d)
    exact decide_eq_true c]
  ·rw[List.filter_cons_of_pos (by simp[a])]
   exact((nY b.2 ((List.mem_cons.1 h).resolve_left λe=>a e.symm)).cons x).trans (.swap _ _ _)
theorem Av(g:Nat)(C:List (dW×List ByteArray))(A:List (ByteArray×cY))(T:ay)(h:GI g C A T)(hl:C.length<=1000000)(a:∀p∈C,p.2.length<=1000000)(R:aC)(H:∀p∈T,R p.1 p.2):
  Spec prog 77 [pT g] R [] λv H'=>∃T',H'=[T']/\∃ps To Ti,T'=To++Ti/\OS 129 3 bC v ps To/\(∀p∈ps,iw (dV Ti) p)/\(ps.map (·.2)).Perm C/\ps.Pairwise (λp q=>ap ls q p=false):=by
 obtain⟨K,_,rfl,j,e,vm,M,q,Tc,Tm,Tq,rfl,⟨l,a3,B⟩,hM,hI,hA,hQ⟩:=h
 obtain⟨s,rfl⟩:∃b,vm=.map (some b):=by obtain⟨b,es,a2,t,_⟩:=hM;exact⟨b,t⟩
 have ic:One j:=⟨by obtain⟨b,es,a2,t,_⟩:=l;subst t;rfl⟩
 have pq:PC R (pT g) [j,.map (some s),pT q]:=PC.of (E:=230) (fr:=(0,0)) (H (g,.cells [j,.map (some s),pT q].toArray 230 (0,0)) (by simp))
 have rm:RM R (λk:dW=>.agg (jW k).toArray) (λp:WS=>p.1) j e:=l.rm λp hp=>H p (by simp[hp])
 have hT:∀b o,dV K b o->R b o:=λb o a=>H (b,o) (by have:(b,o)∈K:=a.1;simp[this])
 have b3:e.length=C.length:=by simpa[AN]using B.length_eq
 refine Spec.eg (H':=[[],[]]) (by simp) ?_
 refine Spec.body func77 rfl results77 ntmps77 rfl ?_
 refine .sr<|.ag rfl<|.zs<|.sr<|.mo rfl ?_
 refine .bx (mO g s _ _ _) (λv hv=>?_)
 subst hv
 refine .q .not<|.zn<|.bB<|.kn<|.sr<|.ag rfl<|.zs<|.sr<|.mo rfl<|.nc rfl<|.fa rfl<|.lo rfl ?_
 refine .range rm (λ_ _=>.inl) rfl (λY a0 a7=>?_)
 refine .zn<|.block ?_
 refine .loop (X:=List NP×List dW×Value×ay×ay×ay) (λy=>(∀p∈y.1,iw (dV y.2.2.2.2.1) p)/\y.2.1.Nodup/\(y.1.map (·.2)++y.2.1.map (jq e)).Perm C/\OS 129 3 bC y.2.2.1 y.1 y.2.2.2.1/\It R (λk:dW=>.agg (jW k).toArray) (λp:WS=>p.1) j e Y y.2.1 y.2.2.2.2.2) (λy=>[(0,pT g),(3,y.2.2.1),(13,Y)]) (λy=>[y.2.2.2.2.2,y.2.2.2.1,y.2.2.2.2.1]) (λy=>y.2.1.length) ([],e.map (·.1),sZ,[],[],a0) ⟨by simp,l.nd,by rw[Ar l.nd];exact B,OS.nil,a7⟩ kE.c.c.c rH ?_
 rintro⟨ps,b1,vo,To,r,Ti⟩ ⟨n,G,i,m,S⟩
 simp only at n G i m S⊢
 have i2:=m.aF
 have V:=i.length_eq
 simp only[List.length_append,List.length_map]at V
 refine .sr ?_
 refine .kq S (λ_ _=>.inl) rfl (λb rest a1 hf ht=>?_)
 refine .q .extract<|.zs ?_
 refine .cond rfl (λw=>?_) λw=>?_
 obtain⟨k,⟨Z,d⟩,hk,F,U⟩:=ht w
 have D:=a3 (k,(Z,d)) (iZ F)
 simp only at D
 have i3:=D.aF
 have a6:jq e k=(k,d):=by simp[jq,F]
 have Q:=nY G hk
 have a8:d.length<=1000000:=a (k,d) (B.mem_iff.1 (kl (f:=λp:WS=>p.2) (iZ F)))
 refine .kn<|.block<|.sr ?_
 refine .q (.entry U (λ_ _=>.inl) rfl) ?_
 refine .q .extract<|.q .extract ?_
 refine .dM (λb4=>?_)
 refine .dA rfl rfl<|.az rfl<|.bN [9] mixed ?_
 refine .tO 0 rfl .move<|.tO 1 rfl (.fieldAddr rfl)<|.tO 2 rfl (.cj rfl)<|.tO 3 rfl (.fieldAddr rfl)<|.tO 4 rfl (.cj rfl)<|.tO 5 rfl .move ?_
 refine .sT 6 rfl ?_
 refine .bY (kF Z d _ (D.mono λb o a=>.inl (hT b o a)) a8) (λw1 I L=>?_)
 obtain⟨p1,k1,rfl,_⟩:=L.shape
 have O:iw (dV I) ((_,(k,d)):NP):=L.dV
 refine .nil (Next.sub ?_)
 refine .tO 7 rfl .ek ?_
 refine .sT 8 rfl ?_
 refine .iQ (λb2=>?_)
 refine .nil (Next.sub ?_)
 refine .sT 9 rfl ?_
 refine .append m (RS.lits (xs:=[((_,(k,d)):NP)]) rfl (by simp[bC]) (by have:=O.dx;simpa using this)) (by simp;omega) (λv5 T5 a4=>?_)
 refine .nil (Next.mod rfl ?_)
 refine .tK 10 rfl .assign ?_
 refine RA.nil (by kernel_rfl) ?_
 refine bg ?_
 ·refine aS (ps++[(_,(k,d))],b1.filter λk'=>decide (k'≠k),v5,T5,I++r,a1) ⟨λp hp=>?_,G.sublist List.filter_sublist,?_,a4,U.it⟩ ?_ kE.c.c.c ((cw [3,3,1,2]).trans (bJ.cW (by simp[take,bM])))
  ·simp only
   rcases List.mem_append.1 hp with hp|hp
   ·exact(n p hp).mono λb o a=>nm a
   ·simp only[List.mem_singleton]at hp;subst hp
    exact O.mono λb o a=>nl a
  ·simp only
   refine List.Perm.trans ?_ i
   rw[List.map_append,List.append_assoc]
   refine List.Perm.append_left _ ?_
   have:=(Q.map (jq e)).symm
   rw[List.map_cons,a6]at this
   exact this
  ·have:=Q.length_eq
   simp only[List.length_cons]at this
   simp only;omega
 have b0:=hf w
 subst b0
 simp only[List.map_nil,List.append_nil]at i
 have a5:bR prog 154 [] R (λp:NP=>Value.agg (bC p).toArray) ls mh:=λx y hx hy R2 _=>p6 x y R2 hx hy
 refine .exit<|aT<|aW<|aU<|aI<|.sr<|.mo rfl ?_
 refine .aQ (SGN.il (caps:=[]) vo ps To _ m (by simp at V;omega) a5 (λp hp=>(n p hp).dx) AW.so) (λu J hu=>?_)
 obtain⟨rfl,ys,N,W,a9⟩:=hu
 have i5:=N.aF
 refine .z<|.mo rfl<|.az rfl ?_
 refine .ret (bb _ (.one (.tmp rfl)) ((cw [1,1]).trans (bJ.cW (H':=[J++r]) (by simp[take,bM]))) ?_)
 ·exact⟨_,rfl,ys,J,r,rfl,N,λp hp=>n p (W.mem_iff.1 hp),(W.map (·.2)).trans i,a9.ordered⟩
end Go.Proofs.YtgppncmdpcefhaaGreatDoor
