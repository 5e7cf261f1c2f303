/- What the law 'CorePlays' uses. No condition. -/
import Derived.Test.YtkkmbiojicgobaaGreatDoorKCorePlaysB
import Derived.Test.YtkkmbiojicgobaaGreatDoorKCorePlaysD
import Derived.Test.YtkkmbiojicgobaaGreatDoorKCorePlaysH
set_option linter.unusedSimpArgs false
set_option linter.unusedVariables false
namespace Go.Proofs.YtkkmbiojicgobaaGreatDoor
set_option linter.defProp false
def ad0:=@Nat.le_refl
def ad1:=@List.cons_append
def ad2:=@List.take_add_one
def ad3:=@List.pairwise_cons
open Tryz
set_option linter.unusedVariables false
set_option maxRecDepth 4000
def eL:List ByteArray->List ByteArray
 |x::y::r=>if x=y then eL (y::r)else x::eL (y::r)
 |l=>l
theorem ru(p x:ByteArray):∀l:List ByteArray,eL (l++[p]++[x])=if p=x then eL (l++[p])else eL (l++[p])++[x]
 |[]=>by
  simp only[List.nil_append,ad1,eL]
  split
  ·rename_i h;subst h;rfl
  ·rfl
 |[a]=>by
  have c:=ru p x []
  simp only[List.nil_append,ad1]at c
  simp only[List.nil_append,ad1,eL]
  rw[show(if p=x then [x]else [p,x])=eL [p,x] by simp[eL],c]
  by_cases d:a=p<;>by_cases e:p=x<;>simp[d,e,eL]
 |a::b::l=>by
  have c:=ru p x (b::l)
  simp only[ad1]at c
  simp only[ad1,eL]
  rw[c]
  by_cases d:a=b<;>by_cases e:p=x<;>simp[d,e]
theorem uz{xs:List ByteArray}{i:Nat}{p x:ByteArray}(c:xs[i]? =some p)(d:xs[i+1]? =some x):eL (xs.take (i+2))=if p=x then eL (xs.take (i+1))else eL (xs.take (i+1))++[x]:=by
 have a:xs.take (i+1)=xs.take i++[p]:=by rw[ad2,c];rfl
 have b:xs.take (i+2)=xs.take i++[p]++[x]:=by rw[ad2,d,a];rfl
 rw[b,a]
 exact ru p x _
theorem rq:∀l:List ByteArray,(eL l).length<=l.length
 |[]=>ad0 _
 |[x]=>ad0 _
 |x::y::r=>by
  have a:=rq (y::r)
  simp only[eL]
  split
  ·simp only[List.length_cons]at a⊢;omega
  ·simp only[List.length_cons]at a⊢;omega
theorem uy{l:List ByteArray}(h:l.length<2):eL l=l:=by
 match l,h with
 |[],_=>rfl
 |[x],_=>rfl
theorem rr(s:ByteArray):∀l:List ByteArray,s∈eL l↔s∈l
 |[]=>Iff.rfl
 |[x]=>Iff.rfl
 |x::y::r=>by
  have a:=rr s (y::r)
  simp only[eL]
  split
  ·rename_i h;subst h;rw[a];simp
  ·rw[List.mem_cons,a];simp
theorem ux:∀l:List ByteArray,(l.Pairwise λa b=>cq b a=false)->(eL l).Pairwise λa b=>cq a b=true
 |[],_=>List.Pairwise.nil
 |[x],_=>List.pairwise_singleton _ _
 |x::y::r,h=>by
  rw[ad3]at h
  have e:=ux (y::r) h.2
  simp only[eL]
  split
  ·exact e
  ·rename_i c
   refine ad3.2 ⟨λz k=>?_,e⟩
   have d:=(rr z (y::r)).1 k
   have f:=h.1 z d
   cases h2:cq x z with
   |true=>rfl
   |false=>
    exfalso
    have j:x=z:=lp h2 f
    subst j
    rcases List.mem_cons.1 d with h3|h3
    ·exact c h3
    ·have g:=(ad3.1 h.2).1 x h3
     have i:=h.1 y (by simp)
     exact c (lp g i)
theorem uo(v:Value)(xs:List ByteArray)(T:ax)(R:au)(h:OS 9 1 bz v xs T)(hl:xs.length<=1000000000):
  Spec prog 146 [v] R [T] λu H'=>∃T',H'=[T']/\OS 9 1 bz u (eL xs) T':=by
 have iv:=h.av
 by_cases J:xs.length<2
 ·skip
  refine Spec.body func146 rfl results146 ntmps146 rfl ?_
  refine .sr<|.ag rfl<|.zs<|.sr<|.mo rfl<|.q (.ei h) ?_
  refine .q .lss<|.zn ?_
  refine .cond rfl (λC=>?_) λC=>?_
  refine .sr<|.mo rfl<|.az rfl ?_
  refine .ret (aI (aN _ (.one (.tmp rfl)) (.one [0] _) ?_))
  ·exact⟨T,by simp[take],by rw[uy J];exact h⟩
  ·have:=bi C;omega
 obtain⟨a0,a1,a9⟩:=h
 rcases a9 with⟨_,N,_⟩|⟨b,l,c,g,rfl,rfl,a7,a8,Z,hr⟩
 ·rw[N]at J;simp at J
 have h:OS 9 1 bz (.slice (some ⟨b,l,none⟩) xs.length g) xs [(b,.cells c 9 (0,0))]:=⟨a0,a1,.inr ⟨b,l,c,g,rfl,rfl,a7,a8,Z,hr⟩⟩
 clear a0 a1 hr Z
 generalize b8:[(b,Obj.cells c 9 (0,0))]=T0 at h⊢
 refine Spec.body func146 rfl results146 ntmps146 rfl ?_
 refine .sr<|.ag rfl<|.zs<|.sr<|.mo rfl<|.q (.ei h) ?_
 refine .q .lss<|.zn ?_
 refine .cond rfl (λC=>?_) λC=>?_
 ·have:=bq C;omega
 refine .kn<|.seq<|.sr<|.az rfl<|.block ?_
 refine .loop (X:=Nat) (λk=>1<=k/\k<=xs.length/\eL (xs.take k)=xs.take k) (λk=>[(0,.slice (some ⟨b,l,none⟩) xs.length g),(3,iN k)]) (λk=>[T0]) (λk=>xs.length-k) 1 ⟨ad0 _,by omega,uy (by rw[List.length_take];omega)⟩ kE.c.c rH ?_
 rintro k ⟨b9,c1,D⟩
 refine .seq<|.sr<|.mo rfl<|.mo rfl<|.q (.ei h) ?_
 refine .q .lss<|.zn ?_
 refine .cond rfl (λI=>?_) λI=>?_
 have b5:k<xs.length:=dT I
 obtain⟨x,S⟩:=dR b5
 obtain⟨p,H⟩:∃x,xs[k-1]? =some x:=⟨_,bB (by omega)⟩
 have E:=uz (xs:=xs) (i:=k-1) H (by rw[show k-1+1=k by omega];exact S)
 rw[show k-1+2=k+1 by omega,show k-1+1=k by omega]at E
 refine .kn<|.seq<|.block<|.seq ?_
 refine .iA mixed (by kernel_rfl) ?_
 refine .mo rfl<|.mo rfl ?_
 refine .ba k h S (λc2=>?_)
 refine .lo rfl<|.mo rfl<|.mo rfl ?_
 refine .ia (k-1) .sub ?_
 refine .ba (k-1) h H (λc3=>?_)
 refine .lo rfl<|.q .eg<|.zn ?_
 refine .cond rfl (λK=>?_) λK=>?_
 have Q:p=x:=(bq K).symm
 rw[if_pos Q,D]at E
 refine .sr<|.mo rfl<|.mo rfl ?_
 refine .q (.sK k xs.length ⟨_,rfl⟩ rfl (by omega) (by omega) rfl) ?_
 rw[LG (by omega)]
 refine .ag rfl<|.zs<|.sr<|.az rfl<|.block ?_
 refine .loop (X:=Nat×Nat×List ByteArray×ax) (λy=>(1<=y.1/\k+y.1<=xs.length/\k<=y.2.1/\y.2.1+1<=k+y.1)/\(y.2.2.1.length=xs.length/\(∀j,k+y.1<=j+1->y.2.2.1[j]? =xs[j]?)/\y.2.2.1.take y.2.1=eL (xs.take (k+y.1)))/\OS 9 1 bz (.slice (some ⟨b,l,none⟩) xs.length g) y.2.2.1 y.2.2.2) (λy=>[(0,.slice (some ⟨b,l,none⟩) xs.length g),(3,iN y.2.1),(4,.slice (some ⟨b,l+k*1,none⟩) (xs.length-k) (g-k)),(5,iN y.1)]) (λy=>[y.2.2.2]) (λy=>xs.length-y.1) (1,k,xs,T0) ⟨⟨ad0 _,by simp only;omega,ad0 _,ad0 _⟩,⟨rfl,λj _=>rfl,E.symm⟩,h⟩ kE.c.c.c.c rH ?_
 rintro⟨a,d,f,A⟩ ⟨⟨b1,b2,b3,b4⟩,⟨s,t,w⟩,n⟩
 simp only at b1 b2 b3 b4 s t w n⊢
 refine .seq<|.sr<|.mo rfl<|.mo rfl<|.q (.nG rfl) ?_
 refine .q .lss<|.zn ?_
 refine .cond rfl (λL=>?_) λL=>?_
 have b6:k+a<xs.length:=by have:=bq L;omega
 obtain⟨m,a3⟩:=dR b6
 obtain⟨F,a2⟩:∃x,xs[k+a-1]? =some x:=⟨_,bB (by omega)⟩
 have r:=uz (xs:=xs) (i:=k+a-1) a2 (by rw[show k+a-1+1=k+a by omega];exact a3)
 rw[show k+a-1+2=k+(a+1) by omega,show k+a-1+1=k+a by omega]at r
 have a6:OS 9 1 bz (.slice (some ⟨b,l,none⟩) f.length g) f A:=by rw[s];exact n
 have B:=a6.NG (R':=sg A) (λ_ H=>H) k (by omega)
 rw[List.length_drop,s]at B
 have U:(f.drop k)[a]? =some m:=by rw[List.getElem?_drop,t _ (by omega)];exact a3
 have a5:(f.drop k)[a-1]? =some F:=by rw[List.getElem?_drop,t _ (by omega),show k+(a-1)=k+a-1 by omega];exact a2
 have px:PS A (eK (.slice (some ⟨b,l+k*1,none⟩) (xs.length-k) (g-k)) (a*1)) (bz m):=⟨B.pc U⟩
 have pp:PS A (eK (.slice (some ⟨b,l+k*1,none⟩) (xs.length-k) (g-k)) ((a-1)*1)) (bz F):=⟨B.pc a5⟩
 obtain⟨y1,a4⟩:∃x,f[d]? =some x:=⟨_,bB (by omega)⟩
 refine .kn<|.seq<|.block<|.seq ?_
 refine .iA mixed (by kernel_rfl) ?_
 refine .mo rfl<|.mo rfl<|.q (.ct a B U rfl rfl rfl) ?_
 refine .lo rfl<|.mo rfl<|.mo rfl ?_
 refine .ia (a-1) .sub ?_
 refine .q (.ct (a-1) B a5 rfl rfl rfl) ?_
 refine .lo rfl<|.q .eU<|.zn ?_
 refine .cond rfl (λM=>?_) λM=>?_
 have b7:F≠m:=λe=>by subst e;simp at M
 rw[if_neg b7]at r
 refine .sr<|.mo rfl<|.mo rfl<|.mo rfl<|.mo rfl<|.q (.ct a B U rfl rfl rfl) ?_
 refine .lo rfl ?_
 refine .ba d n a4 (λc4=>?_)
 refine .eH d n a4 m (λV Y=>?_)
 refine .zn<|.region<|.mo rfl ?_
 refine .ia (d+1) .add ?_
 refine .ag rfl<|.nil<|bw<|aD<|.region<|.mo rfl ?_
 refine .ia (a+1) .add ?_
 refine .ag rfl<|.nil ?_
 ·first
   |refine bd (a+1,d+1,f.set d m,V) ⟨⟨by simp only;omega,by simp only;omega,by simp only;omega,by simp only;omega⟩,⟨by simp only[List.length_set];exact s,λj o=>?_,?_⟩,Y⟩ (by simp only;omega) kE.c.c.c.c rH
    ·simp only at o⊢
     rw[List.getElem?_set_ne (by omega)]
     exact t j (by omega)
    ·simp only
     rw[r, <-w,ad2,List.take_set_of_le (ad0 _),List.getElem?_set_self (by omega)]
     rfl
   |exact bd (a+1,d,f,A) ⟨⟨by simp only;omega,by simp only;omega,by simp only;omega,by simp only;omega⟩,⟨s,λj o=>t j (by simp only at o;omega),by simp only;rw[r];exact w⟩,n⟩ (by simp only;omega) kE.c.c.c.c rH
 have b0:F=m:=by have N:m=F:=(by simpa using M);exact N.symm
 rw[if_pos b0]at r
 refine .skip<|bw<|aD<|.region<|.mo rfl ?_
 refine .ia (a+1) .add ?_
 refine .ag rfl<|.nil ?_
 ·first
   |refine bd (a+1,d+1,f.set d m,V) ⟨⟨by simp only;omega,by simp only;omega,by simp only;omega,by simp only;omega⟩,⟨by simp only[List.length_set];exact s,λj o=>?_,?_⟩,Y⟩ (by simp only;omega) kE.c.c.c.c rH
    ·simp only at o⊢
     rw[List.getElem?_set_ne (by omega)]
     exact t j (by omega)
    ·simp only
     rw[r, <-w,ad2,List.take_set_of_le (ad0 _),List.getElem?_set_self (by omega)]
     rfl
   |exact bd (a+1,d,f,A) ⟨⟨by simp only;omega,by simp only;omega,by simp only;omega,by simp only;omega⟩,⟨s,λj o=>t j (by simp only at o;omega),by simp only;rw[r];exact w⟩,n⟩ (by simp only;omega) kE.c.c.c.c rH
 have O:k+a=xs.length:=by have:=bi L;omega
 rw[O,List.take_length]at w
 have c0:d<=f.length:=by omega
 refine .exit<|bE<|bH<|bF<|aD<|.sr<|.mo rfl<|.mo rfl ?_
 refine .q (.sK d xs.length ⟨_,rfl⟩ rfl (by omega) (by omega) rfl) ?_
 refine .zR d n (by omega) rfl (λW G=>?_)
 rw[w]at G
 have i3:=G.av
 refine .z<|.mo rfl<|.mo rfl ?_
 refine .q (.sK 0 d rfl ⟨_,rfl⟩ (by omega) (by omega) rfl) ?_
 refine .az rfl ?_
 refine .ret (bp (aI (dj (bp (aI (aN _ (.one (.tmp rfl)) (.one [0] _) ?_))))))
 ·first
   |exact⟨W,by simp[take],G⟩
   |exact⟨T0,by simp[take],by rw[D];exact h⟩
 have Q:¬p=x:=λe=>by subst e;simp at K
 rw[if_neg Q,D,show xs.take k++[x]=xs.take (k+1) by rw[ad2,S];rfl]at E
 refine .skip<|bw<|aD<|.region<|.mo rfl ?_
 refine .ia (k+1) .add ?_
 refine .ag rfl<|.nil ?_
 ·exact bd (k+1) ⟨by omega,by omega,E⟩ (by omega) kE.c.c rH
 have O:k=xs.length:=by have:=bi I;omega
 subst O
 rw[List.take_length]at D
 refine .exit<|bE<|bH<|bF<|aD<|.sr<|.mo rfl<|.az rfl ?_
 refine .ret (aN _ (.one (.tmp rfl)) (.one [0] _) ?_)
 ·first
   |exact⟨W,by simp[take],G⟩
   |exact⟨T0,by simp[take],by rw[D];exact h⟩
end Go.Proofs.YtkkmbiojicgobaaGreatDoor
