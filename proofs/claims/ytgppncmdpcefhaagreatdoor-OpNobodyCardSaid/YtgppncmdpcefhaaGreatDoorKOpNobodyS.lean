/- What the law 'OpNobody' uses. No condition. -/
import Derived.Test.YtgppncmdpcefhaaGreatDoorKOpNobodyB
import Derived.Test.YtgppncmdpcefhaaGreatDoorKOpNobodyH
import Derived.Test.YtgppncmdpcefhaaGreatDoorKOpNobodyN
import Derived.Test.YtgppncmdpcefhaaGreatDoorKOpNobodyP
import Derived.Test.YtgppncmdpcefhaaGreatDoorKOpNobodyR
namespace Go.Proofs.YtgppncmdpcefhaaGreatDoor
set_option linter.defProp false
def adO:=@decide_eq_false
def adP:=@List.take_add_one
def adQ:=@decide_eq_true
def adR:=@Bool.false_and
def adS:=@List.mem_map
def adT:=@List.mem_append
def adU:=@List.pairwise_append
def adV:=@List.mem_cons
def adW:=@List.map_map
def adX:=@Bool.and_false
def adY:=@List.length_append
def adZ:=@List.length_eq_zero_iff
def ad0:=@List.map_congr_left
def ad1:=@List.mem_singleton
def ad2:=@List.getElem?_eq_some_iff
open Tryz
set_option linter.unusedVariables false
set_option linter.unusedSimpArgs false
set_option maxRecDepth 4000
abbrev fm(l:List ByteArray):Prop:=l.Pairwise λa b=>cD a b=true
theorem oF:∀{l m:List ByteArray},fm l->fm m->(∀s,s∈l↔s∈m)->l=m
 |[],[],_,_,_=>rfl
 |[],y::m,_,_,h=>by have:=(h y).2 (by simp);simp at this
 |x::l,[],_,_,h=>by have:=(h x).1 (by simp);simp at this
 |x::l,y::m,hl,hm,h=>by
  have b:=List.pairwise_cons.1 hl
  have c:=List.pairwise_cons.1 hm
  have f:x=y:=by
   rcases adV.1 ((h x).1 (by simp))with h1|h1
   ·exact h1
   ·rcases adV.1 ((h y).2 (by simp))with h2|h2
    ·exact h2.symm
    ·have a:=c.1 x h1
     have e:=b.1 y h2
     have:=jk a e
     rw[iu]at this;cases this
  subst f
  congr 1
  refine oF b.2 c.2 λs=>?_
  have d:=h s
  simp only[adV]at d
  constructor
  ·intro h1
   rcases d.1 (.inr h1)with h2|h2
   ·have a:=b.1 s h1
    rw[h2,iu]at a;cases a
   ·exact h2
  ·intro h1
   rcases d.2 (.inr h1)with h2|h2
   ·have a:=c.1 s h1
    rw[h2,iu]at a;cases a
   ·exact h2
theorem EZ(a b:ByteArray):ap dk a b=cD a b:=by
 unfold ap
 rw[Bool.eq_iff_iff,iq,decide_eq_true_eq]
theorem Eu{a:List (db×WS)}{C:List (db×List ByteArray)}{c:ay}(f:(a.map (·.1)).Nodup)(e:∀p∈a,RS (ec c) 1 bU p.2.1 p.2.2)(d:(dd (λp:WS=>p.2) a).Perm C)(k:db):
  ∃w l,((bX k a).map λp:WS=>p.1).getD (sZ)=w/\RS (ec c) 1 bU w l/\(bX k C).getD []=l/\(bX k a).isSome=(bX k C).isSome:=by
 have b:bX k C=(bX k a).map (·.2):=by rw[<-E2 d (by rw[jK];exact f),qV]
 cases hm:bX k a with
 |none=>rw[hm]at b;rw[b];exact⟨_,_,rfl,RS.jM,rfl,rfl⟩
 |some p=>
  rw[hm]at b;rw[b]
  exact⟨p.1,p.2,rfl,e _ (ig hm),rfl,rfl⟩
theorem Gx{R:aA}{H:aS}{a:ay}(d:a∈H):∀b o,ec a b o->Rx R H b o:=λb o c=>.inr (List.mem_flatten.2 ⟨a,d,c.1⟩)
theorem qH(g:Nat)(C:List (db×List ByteArray))(A:List (ByteArray×cW))(T:ay)(h:GI g C A T)(user gy:ByteArray)(vs:Value)(j:List ByteArray)(R:aA)(W:RS R 1 bU vs j)(b1:j.length<=100000)(f:∀p∈C,p.2.length<=1000000):
  Spec prog 117 [pT g,.string user,.string gy,vs] R [T] λu H'=>∃T',H'=[T']/\u=.tuple #[]/\∃l,fm l/\(∀s,s∈l↔s∈(bX (user,gy) C).getD []\/s∈j)/\l.length<=((bX (user,gy) C).getD []).length+j.length/\GI g (if l=[]then C else dB (user,gy) l C) A T':=by
 have b0:=h.E7
 have h0:=h
 obtain⟨k,_,rfl,y,MC,vm,M,q,F,m,n,rfl,⟨i,I,H⟩,J,hI,hA,hQ⟩:=h
 obtain⟨r,rfl⟩:∃b,vm=.map (some b):=by obtain⟨b,es,a0,B,_⟩:=J;exact⟨b,B⟩
 have ic:One y:=⟨by obtain⟨b,es,a0,B,_⟩:=i;subst B;rfl⟩
 have is:=W.aL
 obtain⟨Y,w,a7,U,O,_⟩:=Eu i.nd I H (user,gy)
 have i0:=U.aL
 have a3:w.length<=1000000:=by
  rw[<-O]
  cases hm:bX (user,gy) C with
  |none=>simp
  |some x=>exact f _ (ig hm)
 rw[O]
 refine Spec.ep (H':=[bl g [y,.map (some r),pT q] 230,F,m,n,k]) (by simp) ?_
 refine Spec.body func117 rfl results117 ntmps117 rfl ?_
 refine .seq<|.sr<|.mo rfl ?_
 refine .bc (mQ g r _ _ _) (λv hv=>?_)
 subst hv
 refine .q .not<|.zn<|.bB<|.kn<|.sr<|.mo rfl<|.nc rfl<|.fa rfl<|.lo rfl<|.mo rfl<|.mo rfl ?_
 refine .q .dR ?_
 refine .q (.EV (v:=Y) i.rx rfl (show _=some (Value.agg (hX (user,gy)).toArray)from rfl) a7) ?_
 refine .cL (lu Y w _ (U.mono (Gx (by simp))) a3) (λv1 T1 K=>?_)
 have i1:=K.aL
 refine .mo rfl ?_
 refine .append K W.rx (by omega) (λX Z L=>?_)
 have i2:=L.aL
 refine .ag rfl<|.z<|.mo rfl ?_
 refine .bb (SST.iW (c:=dk) (ok:=λ_=>True) X (w++j) Z _ L (by simp;omega) rfl (λ_ _=>trivial) jl.so) (λu T3 hu=>?_)
 obtain⟨rfl,d,a2,S,a6⟩:=hu
 have a8:=S.length_eq
 rw[adY]at a8
 have V:=pQ d (a6.ordered.imp λ{a b} N=>by rw[EZ]at N;exact N)
 have a9:=pP d
 have Q:∀s,s∈dM d↔s∈w\/s∈j:=λs=>by rw[nR,S.mem_iff,adT]
 refine .z<|.mo rfl ?_
 refine .bb (ui X d T3 _ a2 (by omega)) (λu E D=>?_)
 have i4:=D.aL
 refine .ag rfl<|.z<|.mo rfl<|.q (.fV D) ?_
 refine .q .gtr<|.zn ?_
 refine .cond rfl (λt=>?_) λt=>?_
 have a4:dM d≠[]:=λe=>by rw[e]at t;simp at t
 refine .region<|.mo rfl<|.nc rfl<|.fa rfl<|.lo rfl<|.mo rfl<|.mo rfl ?_
 refine .q .dR ?_
 refine .mo rfl ?_
 refine .update (u:=((u,dM d):WS)) i rfl (show _=some (Value.agg (hX (user,gy)).toArray)from rfl) rfl (λG a1 _=>?_)
 refine .nil<|ct _ .none (.one [1,1,1,1,1,0] _) ?_
 ·refine⟨((g,.cells [y,.map (some r),pT q].toArray 230 (0,0))::(G++(m++n)))++(k++E),by simp[take,cq],rfl,dM d,V,Q,by omega,?_⟩
  rw[if_neg a4]
  refine⟨k++E,_,rfl,_,_,_,M,q,G,m,n,rfl,⟨a1,λp hp=>?_,?_⟩,J,λp hp=>?_,hA,hQ⟩
  ·rcases l8 i.nd hp with hp|rfl
   ·exact(I p hp).mono λb o f=>jR f
   ·exact D.ec.mono λb o f=>lx f
  ·exact(oo (la i.nd)).trans (by rw[lX];exact mU H)
  ·obtain⟨q1,q2,q3⟩:=hI p hp
   exact⟨q1,q2.mono λb o f=>jR f,q3⟩
 have a5:dM d=[]:=by
  rcases Nat.eq_zero_or_pos (dM d).length with h9|h9
  ·exact adZ.1 h9
  ·exfalso
   have:=aY t
   omega
 refine .skip<|ct _ .none (.one [1,1,1,1,1] _) ?_
 ·refine⟨((g,.cells [y,.map (some r),pT q].toArray 230 (0,0))::(F++(m++n)))++k,by simp[take,cq],rfl,dM d,V,Q,by omega,?_⟩
  rw[if_pos a5]
  exact h0
def kT(M:List (ByteArray×GP))(k:ByteArray):cW:=((bX k M).map (·.2)).getD cW.zero
theorem Ef{M:List (ByteArray×GP)}(a:(M.map (·.1)).Nodup):(M.map (·.1)).map (kT M)=M.map (·.2.2):=by
 rw[adW]
 refine ad0 λp b=>?_
 have:bX p.1 M=some p.2:=gz a (by exact b)
 simp[kT,this]
abbrev dc(ps:List GP):List cW:=ps.map (·.2)
def gl(L:List cW):List (ByteArray×cW):=L.map λt=>(t.text,t)
theorem EB{A:List (ByteArray×cW)}(h:∀p∈A,p.1=p.2.text):gl (A.map (·.2))=A:=by
 unfold gl
 rw[adW]
 conv=>rhs;rw[<-List.map_id A]
 exact ad0 λp a=>by rw[Function.comp, <-h p a];rfl
theorem Ex(g:Nat)(C:List (db×List ByteArray))(A:List (ByteArray×cW))(T:ay)(h:GI g C A T)(hl:A.length<=1000000)(R:aA)(F:∀p∈T,R p.1 p.2):
  Spec prog 80 [pT g] R [] λv H'=>∃T',H'=[T']/\∃ps To Ti,T'=To++Ti/\OS 137 9 bG v ps To/\(∀p∈ps,gY (ec Ti) p)/\(gl (dc ps)).Perm A/\ps.Pairwise (λp q=>cD q.2.text p.2.text=false):=by
 have b2:=h.keys
 obtain⟨L,_,rfl,H,MC,vm,M,q,Tc,Tm,Tq,rfl,⟨a6,b8,hC⟩,j,hI,hA,hQ⟩:=h
 obtain⟨f,rfl⟩:∃b,vm=.map (some b):=by obtain⟨b,es,a5,r,_⟩:=j;exact⟨b,r⟩
 have ic:One H:=⟨by obtain⟨b,es,a5,r,_⟩:=a6;subst r;rfl⟩
 have pq:PC R (pT g) [H,.map (some f),pT q]:=PC.of (E:=230) (fr:=(0,0)) (F (g,.cells [H,.map (some f),pT q].toArray 230 (0,0)) (by simp))
 have rm:RM R (λs:ByteArray=>.string s) (λp:GP=>.agg (bG p).toArray) (.map (some f)) M:=j.rm λp hp=>F p (by simp[hp])
 have hT:∀b o,ec L b o->R b o:=λb o d=>F (b,o) (by have:(b,o)∈L:=d.1;simp[this])
 have Q:(M.map (·.2.2)).Perm (A.map (·.2)):=by
  have:=hA.map (·.2)
  unfold dd at this
  rw[adW]at this
  exact this
 have b9:M.length=A.length:=by simpa using Q.length_eq
 refine Spec.ep (H':=[[],[]]) (by simp) ?_
 refine Spec.body func80 rfl results80 ntmps80 rfl ?_
 refine .sr<|.ag rfl<|.zs<|.sr<|.mo rfl ?_
 refine .bc (mQ g f _ _ _) (λv G=>?_)
 subst G
 refine .q .not<|.zn<|.bB<|.kn<|.sr<|.ag rfl<|.zs<|.sr<|.mo rfl<|.nc rfl<|.fa rfl<|.lo rfl ?_
 refine .range rm (λ_ _=>.inl) rfl (λit a3 b1=>?_)
 refine .zn<|.block ?_
 refine .loop (X:=List GP×List ByteArray×Value×ay×ay×ay) (λy=>(∀p∈y.1,gY (ec y.2.2.2.2.1) p)/\y.2.1.Nodup/\(dc y.1++y.2.1.map (kT M)).Perm (A.map (·.2))/\OS 137 9 bG y.2.2.1 y.1 y.2.2.2.1/\It R (λs:ByteArray=>.string s) (λp:GP=>.agg (bG p).toArray) (.map (some f)) M it y.2.1 y.2.2.2.2.2) (λy=>[(0,pT g),(3,y.2.2.1),(13,it)]) (λy=>[y.2.2.2.2.2,y.2.2.2.1,y.2.2.2.2.1]) (λy=>y.2.1.length) ([],M.map (·.1),sZ,[],[],a3) ⟨by simp,j.nd,by rw[Ef j.nd];exact Q,OS.nil,b1⟩ kE.c.c.c rH ?_
 rintro⟨ps,b6,vo,To,n,Ti⟩ ⟨m,D,i,l,Y⟩
 simp only at m D i l Y⊢
 have i2:=l.aL
 have a1:=i.length_eq
 simp only[adY,List.length_map]at a1
 refine .sr ?_
 refine .l9 Y (λ_ _=>.inl) rfl (λb rest a4 hf ht=>?_)
 refine .q .extract<|.zs ?_
 refine .cond rfl (λw=>?_) λw=>?_
 obtain⟨k,⟨I,e⟩,hk,a0,Z⟩:=ht w
 obtain⟨_,V,a8⟩:=hI (k,(I,e)) (ig a0)
 have i3:cg (bG (I,e)):=⟨V.cK⟩
 have b0:kT M k=e:=by simp[kT,a0]
 have W:=filter_one D hk
 refine .kn<|.block<|.sr ?_
 refine .q (.entry Z (λ_ _=>.inl) rfl) ?_
 refine .q .extract ?_
 refine .dz (λb5=>?_)
 refine .dx rfl rfl<|.zn<|.region<|.mo rfl<|.q (.aE rfl) ?_
 refine .cL (qI I e _ (V.mono λb o d=>.inl (hT b o d)) a8) (λv T1 G=>?_)
 obtain⟨J,rfl,B⟩:=G
 have i4:cg (bG (J,e)):=⟨B.cK⟩
 refine .je (λb7=>?_)
 refine .append l (RS.lits (xs:=[((J,e):GP)]) rfl (by simp[bG]) (by have:=B.cK;simpa using this)) (by simp;omega) (λv5 T5 a7=>?_)
 refine .ag rfl<|.nil<|bi ?_
 ·refine aN (ps++[(J,e)],b6.filter λk'=>decide (k'≠k),v5,T5,T1++n,a4) ⟨λp hp=>?_,D.sublist List.filter_sublist,?_,a7,Z.it⟩ ?_ kE.c.c.c ((cu [3,3,1,2]).trans (bV.du (by simp[take,cq])))
  ·simp only
   rcases adT.1 hp with hp|hp
   ·exact(m p hp).mono λb o d=>lx d
   ·simp only[ad1]at hp;subst hp
    exact B.mono λb o d=>jR d
  ·simp only
   refine List.Perm.trans ?_ i
   rw[dc,List.map_append,List.append_assoc]
   refine List.Perm.append_left _ ?_
   have:=(W.map (kT M)).symm
   rw[List.map_cons,b0]at this
   exact this
  ·have:=W.length_eq
   simp only[List.length_cons]at this
   simp only;omega
 have b4:=hf w
 subst b4
 simp only[List.map_nil,List.append_nil]at i
 have a9:cf prog 157 [] R (λp:GP=>Value.agg (bG p).toArray) lP nH:=λx y hx hy R2 _=>Ew x y R2 hx hy
 refine .exit<|aP<|aV<|aR<|aD<|.sr<|.mo rfl ?_
 refine .bb (SGC.iW (caps:=[]) vo ps To _ l (by simp at a1;omega) a9 (λp hp=>(m p hp).cK) Ev) (λu K hu=>?_)
 obtain⟨rfl,ys,S,a2,b3⟩:=hu
 have i5:=S.aL
 refine .z<|.mo rfl<|.az rfl ?_
 refine .ret (aZ _ (.one (.tmp rfl)) ((cu [1,1]).trans (bV.du (H':=[K++n]) (by simp[take,cq]))) ?_)
 ·refine⟨_,rfl,ys,K,n,rfl,S,λp hp=>m p (a2.mem_iff.1 hp),?_,b3.ordered.imp λ{a b} U=>by rw[mW]at U;exact U⟩
  have N:=((a2.map (·.2)).trans i).map λt:cW=>(t.text,t)
  have O:=EB b2
  unfold gl at O
  rw[O]at N
  exact N
def kW(MC:List (db×WS))(k:db):db×List ByteArray:=(k,((bX k MC).map (·.2)).getD [])
theorem Et{a:List (db×WS)}(b:(a.map (·.1)).Nodup):(a.map (·.1)).map (kW a)=dd (λp:WS=>p.2) a:=by
 unfold dd
 rw[adW]
 refine ad0 λp c=>?_
 have:bX p.1 a=some p.2:=gz b (by exact c)
 simp[kW,this]
theorem qA{κ:Type} [DecidableEq κ]{k:κ}:∀{l:List κ},l.Nodup->k∈l->l.Perm (k::l.filter λk'=>decide (k'≠k))
 |[],_,h=>by cases h
 |x::l,hn,h=>by
  have b:=List.nodup_cons.1 hn
  by_cases a:x=k
  ·subst a
   rw[List.filter_cons_of_neg (by simp),List.filter_eq_self.2 λy d=>by
    have c:y≠x:=λe=>b.1 (by rw[<-e];exact d)
    exact adQ c]
  ·rw[List.filter_cons_of_pos (by simp[a])]
   exact((qA b.2 ((adV.1 h).resolve_left λe=>a e.symm)).cons x).trans (.swap _ _ _)
theorem Ey(g:Nat)(C:List (db×List ByteArray))(A:List (ByteArray×cW))(T:ay)(h:GI g C A T)(hl:C.length<=1000000)(a:∀p∈C,p.2.length<=1000000)(R:aA)(H:∀p∈T,R p.1 p.2):
  Spec prog 77 [pT g] R [] λv H'=>∃T',H'=[T']/\∃ps To Ti,T'=To++Ti/\OS 129 3 bN v ps To/\(∀p∈ps,jr (ec Ti) p)/\(ps.map (·.2)).Perm C/\ps.Pairwise (λp q=>ap kl q p=false):=by
 obtain⟨K,_,rfl,j,e,vm,M,q,Tc,Tm,Tq,rfl,⟨l,a3,B⟩,hM,hI,hA,hQ⟩:=h
 obtain⟨s,rfl⟩:∃b,vm=.map (some b):=by obtain⟨b,es,a2,t,_⟩:=hM;exact⟨b,t⟩
 have ic:One j:=⟨by obtain⟨b,es,a2,t,_⟩:=l;subst t;rfl⟩
 have pq:PC R (pT g) [j,.map (some s),pT q]:=PC.of (E:=230) (fr:=(0,0)) (H (g,.cells [j,.map (some s),pT q].toArray 230 (0,0)) (by simp))
 have rm:RM R (λk:db=>.agg (hX k).toArray) (λp:WS=>p.1) j e:=l.rm λp hp=>H p (by simp[hp])
 have hT:∀b o,ec K b o->R b o:=λb o a=>H (b,o) (by have:(b,o)∈K:=a.1;simp[this])
 have b3:e.length=C.length:=by simpa[om]using B.length_eq
 refine Spec.ep (H':=[[],[]]) (by simp) ?_
 refine Spec.body func77 rfl results77 ntmps77 rfl ?_
 refine .sr<|.ag rfl<|.zs<|.sr<|.mo rfl ?_
 refine .bc (mQ g s _ _ _) (λv hv=>?_)
 subst hv
 refine .q .not<|.zn<|.bB<|.kn<|.sr<|.ag rfl<|.zs<|.sr<|.mo rfl<|.nc rfl<|.fa rfl<|.lo rfl ?_
 refine .range rm (λ_ _=>.inl) rfl (λY a0 a7=>?_)
 refine .zn<|.block ?_
 refine .loop (X:=List NP×List db×Value×ay×ay×ay) (λy=>(∀p∈y.1,jr (ec y.2.2.2.2.1) p)/\y.2.1.Nodup/\(y.1.map (·.2)++y.2.1.map (kW e)).Perm C/\OS 129 3 bN y.2.2.1 y.1 y.2.2.2.1/\It R (λk:db=>.agg (hX k).toArray) (λp:WS=>p.1) j e Y y.2.1 y.2.2.2.2.2) (λy=>[(0,pT g),(3,y.2.2.1),(13,Y)]) (λy=>[y.2.2.2.2.2,y.2.2.2.1,y.2.2.2.2.1]) (λy=>y.2.1.length) ([],e.map (·.1),sZ,[],[],a0) ⟨by simp,l.nd,by rw[Et l.nd];exact B,OS.nil,a7⟩ kE.c.c.c rH ?_
 rintro⟨ps,b1,vo,To,r,Ti⟩ ⟨n,G,i,m,S⟩
 simp only at n G i m S⊢
 have i2:=m.aL
 have V:=i.length_eq
 simp only[adY,List.length_map]at V
 refine .sr ?_
 refine .l9 S (λ_ _=>.inl) rfl (λb rest a1 hf ht=>?_)
 refine .q .extract<|.zs ?_
 refine .cond rfl (λw=>?_) λw=>?_
 obtain⟨k,⟨Z,d⟩,hk,F,U⟩:=ht w
 have D:=a3 (k,(Z,d)) (ig F)
 simp only at D
 have i3:=D.aL
 have a6:kW e k=(k,d):=by simp[kW,F]
 have Q:=qA G hk
 have a8:d.length<=1000000:=a (k,d) (B.mem_iff.1 (lW (f:=λp:WS=>p.2) (ig F)))
 refine .kn<|.block<|.sr ?_
 refine .q (.entry U (λ_ _=>.inl) rfl) ?_
 refine .q .extract<|.q .extract ?_
 refine .dz (λb4=>?_)
 refine .dx rfl rfl<|.az rfl<|.bF [9] mixed ?_
 refine .tO 0 rfl .move<|.tO 1 rfl (.fieldAddr rfl)<|.tO 2 rfl (.bO rfl)<|.tO 3 rfl (.fieldAddr rfl)<|.tO 4 rfl (.bO rfl)<|.tO 5 rfl .move ?_
 refine .sT 6 rfl ?_
 refine .cL (lu Z d _ (D.mono λb o a=>.inl (hT b o a)) a8) (λw1 I L=>?_)
 obtain⟨p1,k1,rfl,_⟩:=L.shape
 have O:jr (ec I) ((_,(k,d)):NP):=L.ec
 refine .nil (Next.sub ?_)
 refine .tO 7 rfl .dR ?_
 refine .sT 8 rfl ?_
 refine .je (λb2=>?_)
 refine .nil (Next.sub ?_)
 refine .sT 9 rfl ?_
 refine .append m (RS.lits (xs:=[((_,(k,d)):NP)]) rfl (by simp[bN]) (by have:=O.cK;simpa using this)) (by simp;omega) (λv5 T5 a4=>?_)
 refine .nil (Next.mod rfl ?_)
 refine .tK 10 rfl .assign ?_
 refine RA.nil (by kernel_rfl) ?_
 refine bi ?_
 ·refine aN (ps++[(_,(k,d))],b1.filter λk'=>decide (k'≠k),v5,T5,I++r,a1) ⟨λp hp=>?_,G.sublist List.filter_sublist,?_,a4,U.it⟩ ?_ kE.c.c.c ((cu [3,3,1,2]).trans (bV.du (by simp[take,cq])))
  ·simp only
   rcases adT.1 hp with hp|hp
   ·exact(n p hp).mono λb o a=>lx a
   ·simp only[ad1]at hp;subst hp
    exact O.mono λb o a=>jR a
  ·simp only
   refine List.Perm.trans ?_ i
   rw[List.map_append,List.append_assoc]
   refine List.Perm.append_left _ ?_
   have:=(Q.map (kW e)).symm
   rw[List.map_cons,a6]at this
   exact this
  ·have:=Q.length_eq
   simp only[List.length_cons]at this
   simp only;omega
 have b0:=hf w
 subst b0
 simp only[List.map_nil,List.append_nil]at i
 have a5:cf prog 154 [] R (λp:NP=>Value.agg (bN p).toArray) kl nJ:=λx y hx hy R2 _=>pi x y R2 hx hy
 refine .exit<|aP<|aV<|aR<|aD<|.sr<|.mo rfl ?_
 refine .bb (SGN.iW (caps:=[]) vo ps To _ m (by simp at V;omega) a5 (λp hp=>(n p hp).cK) E6.so) (λu J hu=>?_)
 obtain⟨rfl,ys,N,W,a9⟩:=hu
 have i5:=N.aL
 refine .z<|.mo rfl<|.az rfl ?_
 refine .ret (aZ _ (.one (.tmp rfl)) ((cu [1,1]).trans (bV.du (H':=[J++r]) (by simp[take,cq]))) ?_)
 ·exact⟨_,rfl,ys,J,r,rfl,N,λp hp=>n p (W.mem_iff.1 hp),(W.map (·.2)).trans i,a9.ordered⟩
theorem mg{α:Type}{r:α->α->Prop}(k:∀x y z,r x y->r y z->r x z){l:List α}{i:Nat}{x:α}(h:(l.take i).Pairwise r)(d:l[i]? =some x)(j:∀y,0<i->l[i-1]? =some y->r y x):(l.take (i+1)).Pairwise r:=by
 have e:l.take (i+1)=l.take i++[x]:=by rw[adP,d];rfl
 rw[e,adU]
 refine⟨h,List.pairwise_singleton _ _,λa ha b c=>?_⟩
 rw[ad1]at c
 subst c
 have m:=(ad2.1 d).1
 cases i with
 |zero=>simp at ha
 |succ i=>
  obtain⟨y,f⟩:∃y,l[i]? =some y:=⟨_,aC (by omega)⟩
  have g:=j y (by omega) f
  rw[adP,f]at ha h
  rcases adT.1 ha with ha|ha
  ·exact k _ _ _ ((adU.1 h).2.2 a ha y (by simp)) g
  ·simp at ha;subst ha;exact g
theorem oB{α:Type}{r:α->α->Prop}{l:List α}{i:Nat}{x y:α}(h:l.Pairwise r)(e:l[i]? =some x)(f:l[i-1]? =some y)(g:0<i):r y x:=by
 obtain⟨c,a⟩:=ad2.1 e
 obtain⟨d,b⟩:=ad2.1 f
 have:=List.pairwise_iff_getElem.1 h (i-1) i d c (by omega)
 rw[a,b]at this
 exact this
theorem sV:∀x y z:db×List ByteArray,fx x.1 y.1<0->fx y.1 z.1<0->fx x.1 z.1<0:=λx y z a b=>nD.tl _ _ _ a (Int.le_of_lt b)
def gK(cs:List (db×List ByteArray)):Prop:=(∀p∈cs,p.2≠[]/\fm p.2)/\cs.Pairwise (λa b=>fx a.1 b.1<0)
def jt(ts:List cW):Prop:=ts.Pairwise (λa b=>cD a.text b.text=true)/\ts.length<=4096
instance(cs:List (db×List ByteArray)):Decidable (gK cs):=by unfold gK;infer_instance
instance(ts:List cW):Decidable (jt ts):=by unfold jt;infer_instance
def dX(cs:List (db×List ByteArray))(ts:List cW):Bool:=decide (gK cs)&&decide (jt ts)
theorem rW(v:Value)(l:List ByteArray)(R:aA)(h:RS R 1 bU v l):Spec prog 363 [v] R [] λu H'=>u=.bool (decide (fm l))/\H'=[]:=by
 have B:=h.le
 have C:=h.aL
 refine Spec.body func363 rfl results363 ntmps363 rfl ?_
 refine .sr<|.ag rfl<|.zs<|.sr<|.az rfl<|.block ?_
 refine .loop (X:=Nat) (λi=>1<=i/\(i<=l.length\/i=1)/\fm (l.take i)) (λi=>[(0,v),(3,iN i)]) (λ_=>[]) (λi=>l.length-i) 1 ⟨Nat.le_refl _,.inr rfl,by
  match l with
  |[]=>exact List.Pairwise.nil
  |x::l=>simp⟩ kE.c.c rH ?_
 rintro i ⟨w,A,f⟩
 refine .seq<|.sr<|.mo rfl<|.mo rfl<|.q (.dH h) ?_
 refine .q .lss<|.zn ?_
 refine .cond rfl (λd=>?_) λd=>?_
 have o:i<l.length:=de d
 obtain⟨x,g⟩:=eL o
 obtain⟨y,j⟩:∃x,l[i-1]? =some x:=⟨_,aC (by omega)⟩
 refine .kn<|.seq<|.block<|.seq ?_
 refine .mh mixed (by kernel_rfl) ?_
 refine .mo rfl<|.mo rfl ?_
 refine .ia (i-1) .sub ?_
 refine .cR (i-1) h j (λD=>?_)
 refine .lo rfl<|.mo rfl<|.mo rfl ?_
 refine .cR i h g (λE=>?_)
 refine .lo rfl<|.q .mP<|.zn ?_
 refine .cond rfl (λe=>?_) λe=>?_
 have m:decide (fm l)=false:=adO λt=>by
  have s:=oB (r:=λa b=>cD a b=true) t g j (by omega)
  have k:cD y x=false:=by simpa using e
  rw[s]at k;cases k
 refine .sr<|.az rfl ?_
 refine .ret (bg (aT (cc (bg (aT (br rfl ?_))))))
 ·first
   |exact⟨by rw[m],rfl⟩
   |exact⟨by rw[n],rfl⟩
 refine .skip<|bi<|aD<|.region<|.mo rfl ?_
 refine .ia (i+1) .add ?_
 refine .ag rfl<|.nil ?_
 ·exact aN (i+1) ⟨by omega,.inl o,mg (r:=λa b=>cD a b=true) (λx y z d e=>jk d e) f g λF _ p=>by
   rw[j]at p;cases p
   simpa using e⟩ (by omega) kE.c.c rH
 have n:decide (fm l)=true:=by
  rw[List.take_of_length_le (by have:=aY d;omega)]at f
  exact adQ f
 refine .exit<|aP<|aV<|aR<|aD<|.sr<|.az rfl ?_
 refine .ret (br rfl ?_)
 ·first
   |exact⟨by rw[m],rfl⟩
   |exact⟨by rw[n],rfl⟩
abbrev cV(ps:List NP):List (db×List ByteArray):=ps.map (·.2)
theorem EC(v vt:Value)(ps:List NP)(qs:List GP)(R:aA)(h:RS R 3 bN v ps)(hc:∀p∈ps,jr R p)(hf:∀p∈ps,p.2.2.length<=100000)(h':RS R 9 bG vt qs)(b9:∀p∈qs,gY R p)(c3:∀p∈qs,p.2.fT):
    Spec prog 246 [v,vt] R [] λu H'=>∃T,H'=[T]/\((dX (cV ps) (dc qs)=true/\∃g,u=.tuple [pT g,.int .i64 0].toArray/\GI g (cV ps) (gl (dc qs)) T)\/(dX (cV ps) (dc qs)=false/\u=.tuple [.pointer none,.int .i64 4].toArray)):=by
  have d2:=h.le
  have d3:=h'.le
  have c9:(cV ps).length=ps.length:=by simp
  have d0:(dc qs).length=qs.length:=by simp
  obtain⟨pv,c1,rfl⟩:=h.val
  obtain⟨pt,b7,rfl⟩:=h'.val
  refine Spec.body func246 rfl results246 ntmps246 rfl ?_
  refine .sr<|.ag rfl<|.ag rfl<|.z ?_
  refine .cL (qL _) (λu T0 D=>?_)
  obtain⟨g,rfl,c0⟩:=D
  refine .ag rfl<|.zs<|.sr<|.mo rfl<|.q (.dH h) ?_
  refine .mo rfl<|.zn<|.block ?_
  refine .loop (X:=Nat×ay) (λy=>y.1<=ps.length/\((∀p∈(cV ps).take y.1,p.2≠[]/\fm p.2)/\((cV ps).take y.1).Pairwise λa b=>fx a.1 b.1<0)/\GI g ((cV ps).take y.1) [] y.2) (λy=>[(0,.slice pv ps.length c1),(1,.slice pt qs.length b7),(6,pT g),(12,.slice pv ps.length c1),(13,iN ps.length),(14,iN y.1)]) (λy=>[y.2]) (λy=>ps.length-y.1) (0,T0) ⟨Nat.zero_le _,⟨by simp,by simp⟩,c0⟩ kE.c.c.c.c.c.c rH ?_
  clear c0
  rintro⟨i,T⟩ ⟨hi,⟨a4,a5⟩,A⟩
  simp only at hi a4 a5 A⊢
  refine .sr<|.q .lss<|.zs ?_
  refine .cond rfl (λV=>?_) λV=>?_
  have W:i<ps.length:=de V
  obtain⟨⟨E,d,f⟩,Q⟩:=eL W
  have cz:=hc _ (aF Q)
  have fz:=hf _ (aF Q)
  have rz:RS R 1 bU E f:=cz
  have iz:cg (bN (E,d,f)):=⟨cz.cK⟩
  have w:(cV ps)[i]? =some (d,f):=by simp[Q]
  have iw:One E:=rz.aL
  refine .kn<|.seq<|.block<|.sr<|.mo rfl ?_
  refine .cR i h Q (λd4=>?_)
  refine .q (.aE rfl) ?_
  refine .dz (λb8=>?_)
  refine .ag rfl<|.dx rfl rfl<|.zs<|.seq ?_
  refine .bQ 9 mixed (by kernel_rfl) ?_
  conv=>arg 6;dsimp only[List.take]
  refine .mo rfl<|.q .gtr<|.mo rfl ?_
  refine .split (t:=21) rfl (λo=>?_) (λo=>?_)
  have c4:0<i:=by have:=bo o;omega
  obtain⟨⟨wy,I,ly⟩,O⟩:∃z,ps[i-1]? =some z:=⟨_,aC (by omega)⟩
  have cy:=hc _ (aF O)
  have iy:cg (bN (wy,I,ly)):=⟨cy.cK⟩
  have a1:(cV ps)[i-1]? =some (I,ly):=by simp[O]
  have py:=h.pc O
  refine .gT o<|.mo rfl<|.gT o<|.mo rfl<|.gT o ?_
  refine .ia (i-1) .sub ?_
  refine .gT o<|.q (.cR (i-1) h O rfl rfl rfl) ?_
  refine .gT o<|.q (.aE rfl)<|.gT o<|.q (.aE rfl)<|.nil<|.gT o ?_
  refine .bc (pi (wy,I,ly) (E,d,f) _ iy.h iz.h) (λu D=>?_)
  subst D
  refine .gT o<|.q .geq<|.q (.bu o) ?_
  refine .mo rfl ?_
  refine .split (t:=31) rfl (λF=>?_) (λF=>?_)
  have B:dX (cV ps) (dc qs)=false:=by
    unfold dX
    rw[adO (p:=gK (cV ps)),adR]
    intro n
    have C:fx I d<0:=oB (r:=λa b:db×List ByteArray=>fx a.1 b.1<0) n.2 w a1 c4
    have l:=bo F
    have e7:kl (wy,I,ly) (E,d,f)=fx I d:=rfl
    omega
  refine .gF F<|.gF F<|.gF F<|.gF F<|.q (.bu F) ?_
  refine .mo rfl<|.gX<|.gX<|.gX<|.gX<|.q .ed<|.zn<|.dG ?_
  skip
  have B:dX (cV ps) (dc qs)=false:=by
    first
      |assumption
      |(unfold dX
        rw[adO (p:=gK (cV ps)),adR]
        intro n
        have C:=(n.1 (d,f) (aF w)).2
        have l:decide (fm f)=false:=by simpa using G
        rw[adQ C]at l;cases l)
  refine .sr<|.ag rfl<|.az rfl ?_
  refine .ret (aT (bg (aT (cc (bg (aT (aZ _ (.two (.tmp rfl) (.tmp rfl)) (.one [0] _) ?_)))))))
  ·first
      |exact⟨_,rfl,.inl ⟨M,g,rfl,by simpa[take]using A⟩⟩
      |exact⟨_,rfl,.inr ⟨B,rfl⟩⟩
  refine .gT F<|.fa rfl<|.gT F<|.lo rfl<|.gT F<|.q (.dH rz) ?_
  refine .gT F<|.q .cA<|.q (.bq F) ?_
  refine .mo rfl ?_
  refine .split (t:=37) rfl (λk=>?_) (λk=>?_)
  have B:dX (cV ps) (dc qs)=false:=by
    unfold dX
    rw[adO (p:=gK (cV ps)),adR]
    intro n
    have C:=(n.1 (d,f) (aF w)).1
    have l:((f.length:Nat):Int)=0:=by simpa using k
    exact C (adZ.1 (show f.length=0 by omega))
  refine .gF k<|.gF k<|.gF k<|.gF k<|.q (.bu k) ?_
  refine .zn<|.dG ?_
  skip
  have B:dX (cV ps) (dc qs)=false:=by
    first
      |assumption
      |(unfold dX
        rw[adO (p:=gK (cV ps)),adR]
        intro n
        have C:=(n.1 (d,f) (aF w)).2
        have l:decide (fm f)=false:=by simpa using G
        rw[adQ C]at l;cases l)
  refine .sr<|.ag rfl<|.az rfl ?_
  refine .ret (aT (bg (aT (cc (bg (aT (aZ _ (.two (.tmp rfl) (.tmp rfl)) (.one [0] _) ?_)))))))
  ·first
      |exact⟨_,rfl,.inl ⟨M,g,rfl,by simpa[take]using A⟩⟩
      |exact⟨_,rfl,.inr ⟨B,rfl⟩⟩
  refine .gT k<|.fa rfl<|.gT k<|.lo rfl<|.gT k ?_
  refine .bc (rW E f _ rz.rx) (λu D=>?_)
  subst D
  refine .gT k<|.q .not<|.q (.bq k) ?_
  refine .zn ?_
  refine .cond rfl (λG=>?_) λG=>?_
  skip
  have B:dX (cV ps) (dc qs)=false:=by
    first
      |assumption
      |(unfold dX
        rw[adO (p:=gK (cV ps)),adR]
        intro n
        have C:=(n.1 (d,f) (aF w)).2
        have l:decide (fm f)=false:=by simpa using G
        rw[adQ C]at l;cases l)
  refine .sr<|.ag rfl<|.az rfl ?_
  refine .ret (aT (bg (aT (cc (bg (aT (aZ _ (.two (.tmp rfl) (.tmp rfl)) (.one [0] _) ?_)))))))
  ·first
      |exact⟨_,rfl,.inl ⟨M,g,rfl,by simpa[take]using A⟩⟩
      |exact⟨_,rfl,.inr ⟨B,rfl⟩⟩
  have a2:f≠[]:=λe=>by rw[e]at k;simp at k
  have a7:fm f:=by simpa using G
  have b4:∀p∈(cV ps).take (i+1),p.2≠[]/\fm p.2:=λp hp=>by
    rw[adP,w]at hp
    rcases adT.1 hp with hp|hp
    ·exact a4 p hp
    ·simp at hp;subst hp;exact⟨a2,a7⟩
  have Z:((cV ps).take (i+1)).Pairwise λa b=>fx a.1 b.1<0:=mg (r:=λa b:db×List ByteArray=>fx a.1 b.1<0) sV a5 w λy h0 K=>by
    first
      |(exfalso;have:=aY o;omega)
      |(rw[a1]at K;cases K
        have l:=aY F
        have e7:kl (wy,I,ly) (E,d,f)=fx I d:=rfl
        show fx I d<0
        omega)
  have a3:d∉((cV ps).take i).map (·.1):=λY=>by
    rw[adP,w]at Z
    obtain⟨p,hp,N⟩:=adS.1 Y
    have:=(adU.1 Z).2.2 p hp (d,f) (by simp)
    simp only at this
    rw[N]at this
    have e0:=nD.refl d
    omega
  refine .kn<|.region<|.mo rfl<|.fa rfl<|.lo rfl<|.fa rfl<|.lo rfl<|.fa rfl<|.lo rfl ?_
  refine .bb (qH g _ [] T A d.1 d.2 E f _ rz fz (λp hp=>by
    have b5:=List.mem_of_mem_take hp
    obtain⟨q,hq,rfl⟩:=adS.1 b5
    have:=hf q hq
    omega)) (λu U D=>?_)
  obtain⟨rfl,l2,b0,b2,_,J⟩:=D
  have b3:bX (d.1,d.2) ((cV ps).take i)=none:=gQ.2 a3
  have b1:l2=f:=oF b0 a7 λs=>by rw[b2,b3];simp
  subst b1
  rw[if_neg a2,show dB (d.1,d.2) l2 ((cV ps).take i)=(cV ps).take (i+1) by
    unfold dB
    rw[iL a3,adP,w]
    rfl]at J
  refine .nil<|bi<|aD<|.region ?_
  refine .ia (i+1) .add ?_
  refine .mo rfl<|.nil ?_
  ·exact aN (i+1,U) ⟨W,⟨b4,Z⟩,J⟩ (by simp only;omega) kE.c.c.c.c.c.c (cu [1])
  refine .gF o<|.gF o<|.gF o<|.gF o<|.gF o<|.gF o<|.nil<|.gF o<|.gF o<|.q (.bq o) ?_
  refine .mo rfl<|.gt rfl ?_
  refine .fa rfl<|.gt rfl ?_
  refine .lo rfl<|.gt rfl ?_
  refine .q (.dH rz) ?_
  refine .gt rfl ?_
  refine .q .cA<|.q .dv<|.mo rfl ?_
  refine .split (t:=37) rfl (λk=>?_) (λk=>?_)
  have B:dX (cV ps) (dc qs)=false:=by
    unfold dX
    rw[adO (p:=gK (cV ps)),adR]
    intro n
    have C:=(n.1 (d,f) (aF w)).1
    have l:((f.length:Nat):Int)=0:=by simpa using k
    exact C (adZ.1 (show f.length=0 by omega))
  refine .gF k<|.gF k<|.gF k<|.gF k<|.q (.bu k) ?_
  refine .zn<|.dG ?_
  skip
  have B:dX (cV ps) (dc qs)=false:=by
    first
      |assumption
      |(unfold dX
        rw[adO (p:=gK (cV ps)),adR]
        intro n
        have C:=(n.1 (d,f) (aF w)).2
        have l:decide (fm f)=false:=by simpa using G
        rw[adQ C]at l;cases l)
  refine .sr<|.ag rfl<|.az rfl ?_
  refine .ret (aT (bg (aT (cc (bg (aT (aZ _ (.two (.tmp rfl) (.tmp rfl)) (.one [0] _) ?_)))))))
  ·first
      |exact⟨_,rfl,.inl ⟨M,g,rfl,by simpa[take]using A⟩⟩
      |exact⟨_,rfl,.inr ⟨B,rfl⟩⟩
  refine .gT k<|.fa rfl<|.gT k<|.lo rfl<|.gT k ?_
  refine .bc (rW E f _ rz.rx) (λu D=>?_)
  subst D
  refine .gT k<|.q .not<|.q (.bq k) ?_
  refine .zn ?_
  refine .cond rfl (λG=>?_) λG=>?_
  skip
  have B:dX (cV ps) (dc qs)=false:=by
    first
      |assumption
      |(unfold dX
        rw[adO (p:=gK (cV ps)),adR]
        intro n
        have C:=(n.1 (d,f) (aF w)).2
        have l:decide (fm f)=false:=by simpa using G
        rw[adQ C]at l;cases l)
  refine .sr<|.ag rfl<|.az rfl ?_
  refine .ret (aT (bg (aT (cc (bg (aT (aZ _ (.two (.tmp rfl) (.tmp rfl)) (.one [0] _) ?_)))))))
  ·first
      |exact⟨_,rfl,.inl ⟨M,g,rfl,by simpa[take]using A⟩⟩
      |exact⟨_,rfl,.inr ⟨B,rfl⟩⟩
  have a2:f≠[]:=λe=>by rw[e]at k;simp at k
  have a7:fm f:=by simpa using G
  have b4:∀p∈(cV ps).take (i+1),p.2≠[]/\fm p.2:=λp hp=>by
    rw[adP,w]at hp
    rcases adT.1 hp with hp|hp
    ·exact a4 p hp
    ·simp at hp;subst hp;exact⟨a2,a7⟩
  have Z:((cV ps).take (i+1)).Pairwise λa b=>fx a.1 b.1<0:=mg (r:=λa b:db×List ByteArray=>fx a.1 b.1<0) sV a5 w λy h0 K=>by
    first
      |(exfalso;have:=aY o;omega)
      |(rw[a1]at K;cases K
        have l:=aY F
        have e7:kl (wy,I,ly) (E,d,f)=fx I d:=rfl
        show fx I d<0
        omega)
  have a3:d∉((cV ps).take i).map (·.1):=λY=>by
    rw[adP,w]at Z
    obtain⟨p,hp,N⟩:=adS.1 Y
    have:=(adU.1 Z).2.2 p hp (d,f) (by simp)
    simp only at this
    rw[N]at this
    have e0:=nD.refl d
    omega
  refine .kn<|.region<|.mo rfl<|.fa rfl<|.lo rfl<|.fa rfl<|.lo rfl<|.fa rfl<|.lo rfl ?_
  refine .bb (qH g _ [] T A d.1 d.2 E f _ rz fz (λp hp=>by
    have b5:=List.mem_of_mem_take hp
    obtain⟨q,hq,rfl⟩:=adS.1 b5
    have:=hf q hq
    omega)) (λu U D=>?_)
  obtain⟨rfl,l2,b0,b2,_,J⟩:=D
  have b3:bX (d.1,d.2) ((cV ps).take i)=none:=gQ.2 a3
  have b1:l2=f:=oF b0 a7 λs=>by rw[b2,b3];simp
  subst b1
  rw[if_neg a2,show dB (d.1,d.2) l2 ((cV ps).take i)=(cV ps).take (i+1) by
    unfold dB
    rw[iL a3,adP,w]
    rfl]at J
  refine .nil<|bi<|aD<|.region ?_
  refine .ia (i+1) .add ?_
  refine .mo rfl<|.nil ?_
  ·exact aN (i+1,U) ⟨W,⟨b4,Z⟩,J⟩ (by simp only;omega) kE.c.c.c.c.c.c (cu [1])
  have c5:i=ps.length:=by have:=aY V;omega
  rw[c5, <-c9,List.take_length]at a4 a5 A
  have c2:gK (cV ps):=⟨a4,a5⟩
  refine .exit<|aP<|aV<|aR<|aD<|.seq<|.sr<|.mo rfl<|.q (.dH h') ?_
  refine .mo rfl<|.zn<|.block ?_
  refine .loop (X:=Nat×ay) (λy=>y.1<=qs.length/\(y.1<=4096/\((dc qs).take y.1).Pairwise λa b=>cD a.text b.text=true)/\GI g (cV ps) (gl ((dc qs).take y.1)) y.2) (λy=>[(1,.slice pt qs.length b7),(6,pT g),(52,.slice pt qs.length b7),(53,iN qs.length),(54,iN y.1)]) (λy=>[y.2]) (λy=>qs.length-y.1) (0,T) ⟨Nat.zero_le _,⟨Nat.zero_le _,by simp⟩,A⟩ kE.c.c.c.c.c rH ?_
  clear A T
  rintro⟨j,T⟩ ⟨hj,⟨c8,a6⟩,A⟩
  simp only at hj c8 a6 A⊢
  refine .sr<|.q .lss<|.zs ?_
  refine .cond rfl (λh3=>?_) λh3=>?_
  have W:j<qs.length:=de h3
  obtain⟨⟨E,H⟩,Q⟩:=eL W
  have cz:=b9 _ (aF Q)
  have fz:=c3 _ (aF Q)
  have iz:cg (bG (E,H)):=⟨cz.cK⟩
  have w:(dc qs)[j]? =some H:=by simp[Q]
  refine .kn<|.seq<|.block<|.sr<|.mo rfl ?_
  refine .cR j h' Q (λd5=>?_)
  refine .q (.aE rfl) ?_
  refine .dz (λd1=>?_)
  refine .ag rfl<|.dx rfl rfl<|.zs<|.seq ?_
  refine .mh mixed (by kernel_rfl) ?_
  refine .mo rfl<|.q .gtr<|.mo rfl ?_
  refine .split (t:=61) rfl (λm=>?_) (λm=>?_)
  have c7:0<j:=by have:=bo m;omega
  obtain⟨⟨wy,ty⟩,O⟩:∃z,qs[j-1]? =some z:=⟨_,aC (by omega)⟩
  have cy:=b9 _ (aF O)
  have iy:cg (bG (wy,ty)):=⟨cy.cK⟩
  have a1:(dc qs)[j-1]? =some ty:=by simp[O]
  have py:=h'.pc O
  refine .gT m<|.mo rfl<|.gT m<|.mo rfl<|.gT m ?_
  refine .ia (j-1) .sub ?_
  refine .gT m<|.q (.cR (j-1) h' O rfl rfl rfl) ?_
  refine .gT m<|.fa rfl<|.gT m<|.lo rfl<|.gT m<|.fa rfl<|.gT m<|.lo rfl<|.gT m<|.q .mP<|.q (.bu m) ?_
  refine .mo rfl ?_
  refine .split (t:=72) rfl (λL=>?_) (λL=>?_)
  have B:dX (cV ps) (dc qs)=false:=by
    unfold dX
    rw[adO (p:=jt (dc qs)),adX]
    intro n
    have C:cD ty.text H.text=true:=oB (r:=λa b:cW=>cD a.text b.text=true) n.1 w a1 c7
    have l:cD ty.text H.text=false:=by simpa using L
    rw[C]at l;cases l
  refine .gF L<|.gF L<|.q (.bu L) ?_
  refine .zn<|.dG ?_
  have B:dX (cV ps) (dc qs)=false:=by
    first
      |assumption
      |(unfold dX
        rw[adO (p:=jt (dc qs)),adX]
        intro n
        have C:=n.2
        have l:=bo S
        omega)
  refine .sr<|.ag rfl<|.az rfl ?_
  refine .ret (aT (bg (aT (cc (bg (aT (aZ _ (.two (.tmp rfl) (.tmp rfl)) (.one [0] _) ?_)))))))
  ·first
      |exact⟨_,rfl,.inl ⟨M,g,rfl,by simpa[take]using A⟩⟩
      |exact⟨_,rfl,.inr ⟨B,rfl⟩⟩
  refine .gT L<|.mo rfl<|.gT L<|.q .geq<|.q (.bq L) ?_
  refine .zn ?_
  refine .cond rfl (λS=>?_) λS=>?_
  have B:dX (cV ps) (dc qs)=false:=by
    first
      |assumption
      |(unfold dX
        rw[adO (p:=jt (dc qs)),adX]
        intro n
        have C:=n.2
        have l:=bo S
        omega)
  refine .sr<|.ag rfl<|.az rfl ?_
  refine .ret (aT (bg (aT (cc (bg (aT (aZ _ (.two (.tmp rfl) (.tmp rfl)) (.one [0] _) ?_)))))))
  ·first
      |exact⟨_,rfl,.inl ⟨M,g,rfl,by simpa[take]using A⟩⟩
      |exact⟨_,rfl,.inr ⟨B,rfl⟩⟩
  have a9:j<4096:=by have:=aY S;omega
  have a0:((dc qs).take (j+1)).Pairwise λa b=>cD a.text b.text=true:=mg (r:=λa b:cW=>cD a.text b.text=true) (λx y z V G=>jk V G) a6 w λy h0 K=>by
    first
      |(exfalso;have:=aY m;omega)
      |(rw[a1]at K;cases K
        simpa using L)
  have a8:(dc qs).take (j+1)=(dc qs).take j++[H]:=by rw[adP,w];rfl
  refine .kn<|.region<|.mo rfl<|.q (.aE rfl) ?_
  refine .bb (qM g _ _ T A E H _ cz fz (by simp[gl];omega)) (λu U D=>?_)
  obtain⟨rfl,J⟩:=D
  have b6:dB H.text H (gl ((dc qs).take j))=gl ((dc qs).take (j+1)):=by
    rw[a8]
    unfold dB
    rw[iL]
    ·simp[gl]
    ·intro Y
     rw[a8,adU]at a0
     obtain⟨p,hp,N⟩:=adS.1 Y
     obtain⟨t,ht,rfl⟩:=adS.1 hp
     have:=a0.2.2 t ht H (by simp)
     simp only at N
     rw[N,iu]at this;cases this
  rw[b6]at J
  refine .nil<|bi<|aD<|.region ?_
  refine .ia (j+1) .add ?_
  refine .mo rfl<|.nil ?_
  ·exact aN (j+1,U) ⟨W,⟨a9,a0⟩,J⟩ (by simp only;omega) kE.c.c.c.c.c (cu [1])
  refine .gF m<|.gF m<|.gF m<|.gF m<|.gF m<|.gF m<|.gF m<|.gF m<|.gF m<|.q (.bq m) ?_
  refine .mo rfl<|.gt rfl ?_
  refine .mo rfl<|.gt rfl ?_
  refine .q .geq<|.q .dv<|.zn ?_
  refine .cond rfl (λS=>?_) λS=>?_
  have B:dX (cV ps) (dc qs)=false:=by
    first
      |assumption
      |(unfold dX
        rw[adO (p:=jt (dc qs)),adX]
        intro n
        have C:=n.2
        have l:=bo S
        omega)
  refine .sr<|.ag rfl<|.az rfl ?_
  refine .ret (aT (bg (aT (cc (bg (aT (aZ _ (.two (.tmp rfl) (.tmp rfl)) (.one [0] _) ?_)))))))
  ·first
      |exact⟨_,rfl,.inl ⟨M,g,rfl,by simpa[take]using A⟩⟩
      |exact⟨_,rfl,.inr ⟨B,rfl⟩⟩
  have a9:j<4096:=by have:=aY S;omega
  have a0:((dc qs).take (j+1)).Pairwise λa b=>cD a.text b.text=true:=mg (r:=λa b:cW=>cD a.text b.text=true) (λx y z V G=>jk V G) a6 w λy h0 K=>by
    first
      |(exfalso;have:=aY m;omega)
      |(rw[a1]at K;cases K
        simpa using L)
  have a8:(dc qs).take (j+1)=(dc qs).take j++[H]:=by rw[adP,w];rfl
  refine .kn<|.region<|.mo rfl<|.q (.aE rfl) ?_
  refine .bb (qM g _ _ T A E H _ cz fz (by simp[gl];omega)) (λu U D=>?_)
  obtain⟨rfl,J⟩:=D
  have b6:dB H.text H (gl ((dc qs).take j))=gl ((dc qs).take (j+1)):=by
    rw[a8]
    unfold dB
    rw[iL]
    ·simp[gl]
    ·intro Y
     rw[a8,adU]at a0
     obtain⟨p,hp,N⟩:=adS.1 Y
     obtain⟨t,ht,rfl⟩:=adS.1 hp
     have:=a0.2.2 t ht H (by simp)
     simp only at N
     rw[N,iu]at this;cases this
  rw[b6]at J
  refine .nil<|bi<|aD<|.region ?_
  refine .ia (j+1) .add ?_
  refine .mo rfl<|.nil ?_
  ·exact aN (j+1,U) ⟨W,⟨a9,a0⟩,J⟩ (by simp only;omega) kE.c.c.c.c.c (cu [1])
  have c6:j=qs.length:=by have:=aY h3;omega
  rw[c6, <-d0,List.take_length]at a6 A
  have M:dX (cV ps) (dc qs)=true:=by
    unfold dX
    rw[adQ c2,adQ (p:=jt (dc qs)) ⟨a6,by omega⟩];rfl
  refine .exit<|aP<|aV<|aR<|aD<|.sr<|.mo rfl<|.ag rfl<|.az rfl ?_
  refine .ret (aZ _ (.two (.tmp rfl) (.tmp rfl)) (.one [0] _) ?_)
  ·first
      |exact⟨_,rfl,.inl ⟨M,g,rfl,by simpa[take]using A⟩⟩
      |exact⟨_,rfl,.inr ⟨B,rfl⟩⟩
end Go.Proofs.YtgppncmdpcefhaaGreatDoor
