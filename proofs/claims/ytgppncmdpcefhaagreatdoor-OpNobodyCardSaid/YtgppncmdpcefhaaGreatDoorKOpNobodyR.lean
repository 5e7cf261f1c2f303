/- What the law 'OpNobody' uses. No condition. -/
import Derived.Test.YtgppncmdpcefhaaGreatDoorKOpNobodyB
import Derived.Test.YtgppncmdpcefhaaGreatDoorKOpNobodyD
import Derived.Test.YtgppncmdpcefhaaGreatDoorKOpNobodyH
namespace Go.Proofs.YtgppncmdpcefhaaGreatDoor
set_option linter.defProp false
def adK:=@Nat.le_refl
def adL:=@List.cons_append
def adM:=@List.take_add_one
def adN:=@List.pairwise_cons
open Tryz
set_option linter.unusedVariables false
set_option linter.unusedSimpArgs false
set_option maxRecDepth 4000
def dM:List ByteArray->List ByteArray
 |x::y::r=>if x=y then dM (y::r)else x::dM (y::r)
 |l=>l
theorem nS(p x:ByteArray):∀l:List ByteArray,dM (l++[p]++[x])=if p=x then dM (l++[p])else dM (l++[p])++[x]
 |[]=>by
  simp only[List.nil_append,adL,dM]
  split
  ·rename_i h;subst h;rfl
  ·rfl
 |[a]=>by
  have c:=nS p x []
  simp only[List.nil_append,adL]at c
  simp only[List.nil_append,adL,dM]
  rw[show(if p=x then [x]else [p,x])=dM [p,x] by simp[dM],c]
  by_cases d:a=p<;>by_cases e:p=x<;>simp[d,e,dM]
 |a::b::l=>by
  have c:=nS p x (b::l)
  simp only[adL]at c
  simp only[adL,dM]
  rw[c]
  by_cases d:a=b<;>by_cases e:p=x<;>simp[d,e]
theorem pS{xs:List ByteArray}{i:Nat}{p x:ByteArray}(c:xs[i]? =some p)(d:xs[i+1]? =some x):dM (xs.take (i+2))=if p=x then dM (xs.take (i+1))else dM (xs.take (i+1))++[x]:=by
 have a:xs.take (i+1)=xs.take i++[p]:=by rw[adM,c];rfl
 have b:xs.take (i+2)=xs.take i++[p]++[x]:=by rw[adM,d,a];rfl
 rw[b,a]
 exact nS p x _
theorem pP:∀l:List ByteArray,(dM l).length<=l.length
 |[]=>adK _
 |[x]=>adK _
 |x::y::r=>by
  have a:=pP (y::r)
  simp only[dM]
  split
  ·simp only[List.length_cons]at a⊢;omega
  ·simp only[List.length_cons]at a⊢;omega
theorem pR{l:List ByteArray}(h:l.length<2):dM l=l:=by
 match l,h with
 |[],_=>rfl
 |[x],_=>rfl
theorem nR(s:ByteArray):∀l:List ByteArray,s∈dM l↔s∈l
 |[]=>Iff.rfl
 |[x]=>Iff.rfl
 |x::y::r=>by
  have a:=nR s (y::r)
  simp only[dM]
  split
  ·rename_i h;subst h;rw[a];simp
  ·rw[List.mem_cons,a];simp
theorem pQ:∀l:List ByteArray,(l.Pairwise λa b=>cD b a=false)->(dM l).Pairwise λa b=>cD a b=true
 |[],_=>List.Pairwise.nil
 |[x],_=>List.pairwise_singleton _ _
 |x::y::r,h=>by
  rw[adN]at h
  have e:=pQ (y::r) h.2
  simp only[dM]
  split
  ·exact e
  ·rename_i c
   refine adN.2 ⟨λz k=>?_,e⟩
   have d:=(nR z (y::r)).1 k
   have f:=h.1 z d
   cases h2:cD x z with
   |true=>rfl
   |false=>
    exfalso
    have j:x=z:=oI h2 f
    subst j
    rcases List.mem_cons.1 d with h3|h3
    ·exact c h3
    ·have g:=(adN.1 h.2).1 x h3
     have i:=h.1 y (by simp)
     exact c (oI g i)
theorem ui(v:Value)(xs:List ByteArray)(T:ay)(R:aA)(h:OS 9 1 bU v xs T)(hl:xs.length<=1000000000):
  Spec prog 185 [v] R [T] λu H'=>∃T',H'=[T']/\OS 9 1 bU u (dM xs) T':=by
 have iv:=h.aL
 by_cases J:xs.length<2
 ·skip
  refine Spec.body func185 rfl results185 ntmps185 rfl ?_
  refine .sr<|.ag rfl<|.zs<|.sr<|.mo rfl<|.q (.fV h) ?_
  refine .q .lss<|.zn ?_
  refine .cond rfl (λC=>?_) λC=>?_
  refine .sr<|.mo rfl<|.az rfl ?_
  refine .ret (aT (aZ _ (.one (.tmp rfl)) (.one [0] _) ?_))
  ·exact⟨T,by simp[take],by rw[pR J];exact h⟩
  ·have:=aY C;omega
 obtain⟨a0,a1,a9⟩:=h
 rcases a9 with⟨_,N,_⟩|⟨b,l,c,g,rfl,rfl,a7,a8,Z,hr⟩
 ·rw[N]at J;simp at J
 have h:OS 9 1 bU (.slice (some ⟨b,l,none⟩) xs.length g) xs [(b,.cells c 9 (0,0))]:=⟨a0,a1,.inr ⟨b,l,c,g,rfl,rfl,a7,a8,Z,hr⟩⟩
 clear a0 a1 hr Z
 generalize b8:[(b,Obj.cells c 9 (0,0))]=T0 at h⊢
 refine Spec.body func185 rfl results185 ntmps185 rfl ?_
 refine .sr<|.ag rfl<|.zs<|.sr<|.mo rfl<|.q (.fV h) ?_
 refine .q .lss<|.zn ?_
 refine .cond rfl (λC=>?_) λC=>?_
 ·have:=bo C;omega
 refine .kn<|.seq<|.sr<|.az rfl<|.block ?_
 refine .loop (X:=Nat) (λk=>1<=k/\k<=xs.length/\dM (xs.take k)=xs.take k) (λk=>[(0,.slice (some ⟨b,l,none⟩) xs.length g),(3,iN k)]) (λk=>[T0]) (λk=>xs.length-k) 1 ⟨adK _,by omega,pR (by rw[List.length_take];omega)⟩ kE.c.c rH ?_
 rintro k ⟨b9,c1,D⟩
 refine .seq<|.sr<|.mo rfl<|.mo rfl<|.q (.fV h) ?_
 refine .q .lss<|.zn ?_
 refine .cond rfl (λI=>?_) λI=>?_
 have b5:k<xs.length:=de I
 obtain⟨x,S⟩:=eL b5
 obtain⟨p,H⟩:∃x,xs[k-1]? =some x:=⟨_,aC (by omega)⟩
 have E:=pS (xs:=xs) (i:=k-1) H (by rw[show k-1+1=k by omega];exact S)
 rw[show k-1+2=k+1 by omega,show k-1+1=k by omega]at E
 refine .kn<|.seq<|.block<|.seq ?_
 refine .mh mixed (by kernel_rfl) ?_
 refine .mo rfl<|.mo rfl ?_
 refine .au k h S (λc2=>?_)
 refine .lo rfl<|.mo rfl<|.mo rfl ?_
 refine .ia (k-1) .sub ?_
 refine .au (k-1) h H (λc3=>?_)
 refine .lo rfl<|.q .jJ<|.zn ?_
 refine .cond rfl (λK=>?_) λK=>?_
 have Q:p=x:=(bo K).symm
 rw[if_pos Q,D]at E
 refine .sr<|.mo rfl<|.mo rfl ?_
 refine .q (.oK k xs.length ⟨_,rfl⟩ rfl (by omega) (by omega) rfl) ?_
 rw[FL (by omega)]
 refine .ag rfl<|.zs<|.sr<|.az rfl<|.block ?_
 refine .loop (X:=Nat×Nat×List ByteArray×ay) (λy=>(1<=y.1/\k+y.1<=xs.length/\k<=y.2.1/\y.2.1+1<=k+y.1)/\(y.2.2.1.length=xs.length/\(∀j,k+y.1<=j+1->y.2.2.1[j]? =xs[j]?)/\y.2.2.1.take y.2.1=dM (xs.take (k+y.1)))/\OS 9 1 bU (.slice (some ⟨b,l,none⟩) xs.length g) y.2.2.1 y.2.2.2) (λy=>[(0,.slice (some ⟨b,l,none⟩) xs.length g),(3,iN y.2.1),(4,.slice (some ⟨b,l+k*1,none⟩) (xs.length-k) (g-k)),(5,iN y.1)]) (λy=>[y.2.2.2]) (λy=>xs.length-y.1) (1,k,xs,T0) ⟨⟨adK _,by simp only;omega,adK _,adK _⟩,⟨rfl,λj _=>rfl,E.symm⟩,h⟩ kE.c.c.c.c rH ?_
 rintro⟨a,d,f,A⟩ ⟨⟨b1,b2,b3,b4⟩,⟨s,t,w⟩,n⟩
 simp only at b1 b2 b3 b4 s t w n⊢
 refine .seq<|.sr<|.mo rfl<|.mo rfl<|.q (.fw rfl) ?_
 refine .q .lss<|.zn ?_
 refine .cond rfl (λL=>?_) λL=>?_
 have b6:k+a<xs.length:=by have:=bo L;omega
 obtain⟨m,a3⟩:=eL b6
 obtain⟨F,a2⟩:∃x,xs[k+a-1]? =some x:=⟨_,aC (by omega)⟩
 have r:=pS (xs:=xs) (i:=k+a-1) a2 (by rw[show k+a-1+1=k+a by omega];exact a3)
 rw[show k+a-1+2=k+(a+1) by omega,show k+a-1+1=k+a by omega]at r
 have a6:OS 9 1 bU (.slice (some ⟨b,l,none⟩) f.length g) f A:=by rw[s];exact n
 have B:=a6.G2 (R':=sg A) (λ_ H=>H) k (by omega)
 rw[List.length_drop,s]at B
 have U:(f.drop k)[a]? =some m:=by rw[List.getElem?_drop,t _ (by omega)];exact a3
 have a5:(f.drop k)[a-1]? =some F:=by rw[List.getElem?_drop,t _ (by omega),show k+(a-1)=k+a-1 by omega];exact a2
 have px:PS A (eS (.slice (some ⟨b,l+k*1,none⟩) (xs.length-k) (g-k)) (a*1)) (bU m):=⟨B.pc U⟩
 have pp:PS A (eS (.slice (some ⟨b,l+k*1,none⟩) (xs.length-k) (g-k)) ((a-1)*1)) (bU F):=⟨B.pc a5⟩
 obtain⟨y1,a4⟩:∃x,f[d]? =some x:=⟨_,aC (by omega)⟩
 refine .kn<|.seq<|.block<|.seq ?_
 refine .mh mixed (by kernel_rfl) ?_
 refine .mo rfl<|.mo rfl<|.q (.cR a B U rfl rfl rfl) ?_
 refine .lo rfl<|.mo rfl<|.mo rfl ?_
 refine .ia (a-1) .sub ?_
 refine .q (.cR (a-1) B a5 rfl rfl rfl) ?_
 refine .lo rfl<|.q .m2<|.zn ?_
 refine .cond rfl (λM=>?_) λM=>?_
 have b7:F≠m:=λe=>by subst e;simp at M
 rw[if_neg b7]at r
 refine .sr<|.mo rfl<|.mo rfl<|.mo rfl<|.mo rfl<|.q (.cR a B U rfl rfl rfl) ?_
 refine .lo rfl ?_
 refine .au d n a4 (λc4=>?_)
 refine .dq d n a4 m (λV Y=>?_)
 refine .zn<|.region<|.mo rfl ?_
 refine .ia (d+1) .add ?_
 refine .ag rfl<|.nil<|bi<|aD<|.region<|.mo rfl ?_
 refine .ia (a+1) .add ?_
 refine .ag rfl<|.nil ?_
 ·first
   |refine aN (a+1,d+1,f.set d m,V) ⟨⟨by simp only;omega,by simp only;omega,by simp only;omega,by simp only;omega⟩,⟨by simp only[List.length_set];exact s,λj o=>?_,?_⟩,Y⟩ (by simp only;omega) kE.c.c.c.c rH
    ·simp only at o⊢
     rw[List.getElem?_set_ne (by omega)]
     exact t j (by omega)
    ·simp only
     rw[r, <-w,adM,List.take_set_of_le (adK _),List.getElem?_set_self (by omega)]
     rfl
   |exact aN (a+1,d,f,A) ⟨⟨by simp only;omega,by simp only;omega,by simp only;omega,by simp only;omega⟩,⟨s,λj o=>t j (by simp only at o;omega),by simp only;rw[r];exact w⟩,n⟩ (by simp only;omega) kE.c.c.c.c rH
 have b0:F=m:=by have N:m=F:=(by simpa using M);exact N.symm
 rw[if_pos b0]at r
 refine .skip<|bi<|aD<|.region<|.mo rfl ?_
 refine .ia (a+1) .add ?_
 refine .ag rfl<|.nil ?_
 ·first
   |refine aN (a+1,d+1,f.set d m,V) ⟨⟨by simp only;omega,by simp only;omega,by simp only;omega,by simp only;omega⟩,⟨by simp only[List.length_set];exact s,λj o=>?_,?_⟩,Y⟩ (by simp only;omega) kE.c.c.c.c rH
    ·simp only at o⊢
     rw[List.getElem?_set_ne (by omega)]
     exact t j (by omega)
    ·simp only
     rw[r, <-w,adM,List.take_set_of_le (adK _),List.getElem?_set_self (by omega)]
     rfl
   |exact aN (a+1,d,f,A) ⟨⟨by simp only;omega,by simp only;omega,by simp only;omega,by simp only;omega⟩,⟨s,λj o=>t j (by simp only at o;omega),by simp only;rw[r];exact w⟩,n⟩ (by simp only;omega) kE.c.c.c.c rH
 have O:k+a=xs.length:=by have:=aY L;omega
 rw[O,List.take_length]at w
 have c0:d<=f.length:=by omega
 refine .exit<|aP<|aV<|aR<|aD<|.sr<|.mo rfl<|.mo rfl ?_
 refine .q (.oK d xs.length ⟨_,rfl⟩ rfl (by omega) (by omega) rfl) ?_
 refine .uc d n (by omega) rfl (λW G=>?_)
 rw[w]at G
 have i3:=G.aL
 refine .z<|.mo rfl<|.mo rfl ?_
 refine .q (.oK 0 d rfl ⟨_,rfl⟩ (by omega) (by omega) rfl) ?_
 refine .az rfl ?_
 refine .ret (bg (aT (cc (bg (aT (aZ _ (.one (.tmp rfl)) (.one [0] _) ?_))))))
 ·first
   |exact⟨W,by simp[take],G⟩
   |exact⟨T0,by simp[take],by rw[D];exact h⟩
 have Q:¬p=x:=λe=>by subst e;simp at K
 rw[if_neg Q,D,show xs.take k++[x]=xs.take (k+1) by rw[adM,S];rfl]at E
 refine .skip<|bi<|aD<|.region<|.mo rfl ?_
 refine .ia (k+1) .add ?_
 refine .ag rfl<|.nil ?_
 ·exact aN (k+1) ⟨by omega,by omega,E⟩ (by omega) kE.c.c rH
 have O:k=xs.length:=by have:=aY I;omega
 subst O
 rw[List.take_length]at D
 refine .exit<|aP<|aV<|aR<|aD<|.sr<|.mo rfl<|.az rfl ?_
 refine .ret (aZ _ (.one (.tmp rfl)) (.one [0] _) ?_)
 ·first
   |exact⟨W,by simp[take],G⟩
   |exact⟨T0,by simp[take],by rw[D];exact h⟩
end Go.Proofs.YtgppncmdpcefhaaGreatDoor
