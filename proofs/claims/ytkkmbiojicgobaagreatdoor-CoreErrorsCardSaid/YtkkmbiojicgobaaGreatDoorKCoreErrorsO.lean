/- What the law 'CoreErrors' uses. No condition. -/
import Derived.Test.YtkkmbiojicgobaaGreatDoorKCoreErrorsB
import Derived.Test.YtkkmbiojicgobaaGreatDoorKCoreErrorsD
import Derived.Test.YtkkmbiojicgobaaGreatDoorKCoreErrorsH
set_option linter.unusedSimpArgs false
set_option linter.unusedVariables false
namespace Go.Proofs.YtkkmbiojicgobaaGreatDoor
set_option linter.defProp false
def ad0:=@Nat.le_refl
def ad1:=@List.cons_append
def ad2:=@List.take_add_one
def ad3:=@List.pairwise_cons
open Tryz
set_option linter.unusedVariables false
set_option maxRecDepth 4000
def eR:List ByteArray->List ByteArray
 |x::y::r=>if x=y then eR (y::r)else x::eR (y::r)
 |l=>l
theorem rF(p x:ByteArray):∀l:List ByteArray,eR (l++[p]++[x])=if p=x then eR (l++[p])else eR (l++[p])++[x]
 |[]=>by
  simp only[List.nil_append,ad1,eR]
  split
  ·rename_i h;subst h;rfl
  ·rfl
 |[a]=>by
  have c:=rF p x []
  simp only[List.nil_append,ad1]at c
  simp only[List.nil_append,ad1,eR]
  rw[show(if p=x then [x]else [p,x])=eR [p,x] by simp[eR],c]
  by_cases d:a=p<;>by_cases e:p=x<;>simp[d,e,eR]
 |a::b::l=>by
  have c:=rF p x (b::l)
  simp only[ad1]at c
  simp only[ad1,eR]
  rw[c]
  by_cases d:a=b<;>by_cases e:p=x<;>simp[d,e]
theorem uH{xs:List ByteArray}{i:Nat}{p x:ByteArray}(c:xs[i]? =some p)(d:xs[i+1]? =some x):eR (xs.take (i+2))=if p=x then eR (xs.take (i+1))else eR (xs.take (i+1))++[x]:=by
 have a:xs.take (i+1)=xs.take i++[p]:=by rw[ad2,c];rfl
 have b:xs.take (i+2)=xs.take i++[p]++[x]:=by rw[ad2,d,a];rfl
 rw[b,a]
 exact rF p x _
theorem rD:∀l:List ByteArray,(eR l).length<=l.length
 |[]=>ad0 _
 |[x]=>ad0 _
 |x::y::r=>by
  have a:=rD (y::r)
  simp only[eR]
  split
  ·simp only[List.length_cons]at a⊢;omega
  ·simp only[List.length_cons]at a⊢;omega
theorem uG{l:List ByteArray}(h:l.length<2):eR l=l:=by
 match l,h with
 |[],_=>rfl
 |[x],_=>rfl
theorem rE(s:ByteArray):∀l:List ByteArray,s∈eR l↔s∈l
 |[]=>Iff.rfl
 |[x]=>Iff.rfl
 |x::y::r=>by
  have a:=rE s (y::r)
  simp only[eR]
  split
  ·rename_i h;subst h;rw[a];simp
  ·rw[List.mem_cons,a];simp
theorem uF:∀l:List ByteArray,(l.Pairwise λa b=>cp b a=false)->(eR l).Pairwise λa b=>cp a b=true
 |[],_=>List.Pairwise.nil
 |[x],_=>List.pairwise_singleton _ _
 |x::y::r,h=>by
  rw[ad3]at h
  have e:=uF (y::r) h.2
  simp only[eR]
  split
  ·exact e
  ·rename_i c
   refine ad3.2 ⟨λz k=>?_,e⟩
   have d:=(rE z (y::r)).1 k
   have f:=h.1 z d
   cases h2:cp x z with
   |true=>rfl
   |false=>
    exfalso
    have j:x=z:=lx h2 f
    subst j
    rcases List.mem_cons.1 d with h3|h3
    ·exact c h3
    ·have g:=(ad3.1 h.2).1 x h3
     have i:=h.1 y (by simp)
     exact c (lx g i)
theorem uC(v:Value)(xs:List ByteArray)(T:ax)(R:av)(h:OS 9 1 bB v xs T)(hl:xs.length<=1000000000):
  Spec prog 146 [v] R [T] λu H'=>∃T',H'=[T']/\OS 9 1 bB u (eR xs) T':=by
 have iv:=h.aw
 by_cases J:xs.length<2
 ·skip
  refine Spec.body func146 rfl results146 ntmps146 rfl ?_
  refine .sr<|.ag rfl<|.zs<|.sr<|.mo rfl<|.q (.ec h) ?_
  refine .q .lss<|.zn ?_
  refine .cond rfl (λC=>?_) λC=>?_
  refine .sr<|.mo rfl<|.az rfl ?_
  refine .ret (aL (aR _ (.one (.tmp rfl)) (.one [0] _) ?_))
  ·exact⟨T,by simp[take],by rw[uG J];exact h⟩
  ·have:=bo C;omega
 obtain⟨a0,a1,a9⟩:=h
 rcases a9 with⟨_,N,_⟩|⟨b,l,c,g,rfl,rfl,a7,a8,Z,hr⟩
 ·rw[N]at J;simp at J
 have h:OS 9 1 bB (.slice (some ⟨b,l,none⟩) xs.length g) xs [(b,.cells c 9 (0,0))]:=⟨a0,a1,.inr ⟨b,l,c,g,rfl,rfl,a7,a8,Z,hr⟩⟩
 clear a0 a1 hr Z
 generalize b8:[(b,Obj.cells c 9 (0,0))]=T0 at h⊢
 refine Spec.body func146 rfl results146 ntmps146 rfl ?_
 refine .sr<|.ag rfl<|.zs<|.sr<|.mo rfl<|.q (.ec h) ?_
 refine .q .lss<|.zn ?_
 refine .cond rfl (λC=>?_) λC=>?_
 ·have:=bx C;omega
 refine .kn<|.seq<|.sr<|.az rfl<|.block ?_
 refine .loop (X:=Nat) (λk=>1<=k/\k<=xs.length/\eR (xs.take k)=xs.take k) (λk=>[(0,.slice (some ⟨b,l,none⟩) xs.length g),(3,iN k)]) (λk=>[T0]) (λk=>xs.length-k) 1 ⟨ad0 _,by omega,uG (by rw[List.length_take];omega)⟩ kE.c.c rH ?_
 rintro k ⟨b9,c1,D⟩
 refine .seq<|.sr<|.mo rfl<|.mo rfl<|.q (.ec h) ?_
 refine .q .lss<|.zn ?_
 refine .cond rfl (λI=>?_) λI=>?_
 have b5:k<xs.length:=dQ I
 obtain⟨x,S⟩:=dN b5
 obtain⟨p,H⟩:∃x,xs[k-1]? =some x:=⟨_,bC (by omega)⟩
 have E:=uH (xs:=xs) (i:=k-1) H (by rw[show k-1+1=k by omega];exact S)
 rw[show k-1+2=k+1 by omega,show k-1+1=k by omega]at E
 refine .kn<|.seq<|.block<|.seq ?_
 refine .iQ mixed (by kernel_rfl) ?_
 refine .mo rfl<|.mo rfl ?_
 refine .bb k h S (λc2=>?_)
 refine .lo rfl<|.mo rfl<|.mo rfl ?_
 refine .ia (k-1) .sub ?_
 refine .bb (k-1) h H (λc3=>?_)
 refine .lo rfl<|.q .ek<|.zn ?_
 refine .cond rfl (λK=>?_) λK=>?_
 have Q:p=x:=(bx K).symm
 rw[if_pos Q,D]at E
 refine .sr<|.mo rfl<|.mo rfl ?_
 refine .q (.sR k xs.length ⟨_,rfl⟩ rfl (by omega) (by omega) rfl) ?_
 rw[LV (by omega)]
 refine .ag rfl<|.zs<|.sr<|.az rfl<|.block ?_
 refine .loop (X:=Nat×Nat×List ByteArray×ax) (λy=>(1<=y.1/\k+y.1<=xs.length/\k<=y.2.1/\y.2.1+1<=k+y.1)/\(y.2.2.1.length=xs.length/\(∀j,k+y.1<=j+1->y.2.2.1[j]? =xs[j]?)/\y.2.2.1.take y.2.1=eR (xs.take (k+y.1)))/\OS 9 1 bB (.slice (some ⟨b,l,none⟩) xs.length g) y.2.2.1 y.2.2.2) (λy=>[(0,.slice (some ⟨b,l,none⟩) xs.length g),(3,iN y.2.1),(4,.slice (some ⟨b,l+k*1,none⟩) (xs.length-k) (g-k)),(5,iN y.1)]) (λy=>[y.2.2.2]) (λy=>xs.length-y.1) (1,k,xs,T0) ⟨⟨ad0 _,by simp only;omega,ad0 _,ad0 _⟩,⟨rfl,λj _=>rfl,E.symm⟩,h⟩ kE.c.c.c.c rH ?_
 rintro⟨a,d,f,A⟩ ⟨⟨b1,b2,b3,b4⟩,⟨s,t,w⟩,n⟩
 simp only at b1 b2 b3 b4 s t w n⊢
 refine .seq<|.sr<|.mo rfl<|.mo rfl<|.q (.nM rfl) ?_
 refine .q .lss<|.zn ?_
 refine .cond rfl (λL=>?_) λL=>?_
 have b6:k+a<xs.length:=by have:=bx L;omega
 obtain⟨m,a3⟩:=dN b6
 obtain⟨F,a2⟩:∃x,xs[k+a-1]? =some x:=⟨_,bC (by omega)⟩
 have r:=uH (xs:=xs) (i:=k+a-1) a2 (by rw[show k+a-1+1=k+a by omega];exact a3)
 rw[show k+a-1+2=k+(a+1) by omega,show k+a-1+1=k+a by omega]at r
 have a6:OS 9 1 bB (.slice (some ⟨b,l,none⟩) f.length g) f A:=by rw[s];exact n
 have B:=a6.NW (R':=sg A) (λ_ H=>H) k (by omega)
 rw[List.length_drop,s]at B
 have U:(f.drop k)[a]? =some m:=by rw[List.getElem?_drop,t _ (by omega)];exact a3
 have a5:(f.drop k)[a-1]? =some F:=by rw[List.getElem?_drop,t _ (by omega),show k+(a-1)=k+a-1 by omega];exact a2
 have px:PS A (eK (.slice (some ⟨b,l+k*1,none⟩) (xs.length-k) (g-k)) (a*1)) (bB m):=⟨B.pc U⟩
 have pp:PS A (eK (.slice (some ⟨b,l+k*1,none⟩) (xs.length-k) (g-k)) ((a-1)*1)) (bB F):=⟨B.pc a5⟩
 obtain⟨y1,a4⟩:∃x,f[d]? =some x:=⟨_,bC (by omega)⟩
 refine .kn<|.seq<|.block<|.seq ?_
 refine .iQ mixed (by kernel_rfl) ?_
 refine .mo rfl<|.mo rfl<|.q (.cu a B U rfl rfl rfl) ?_
 refine .lo rfl<|.mo rfl<|.mo rfl ?_
 refine .ia (a-1) .sub ?_
 refine .q (.cu (a-1) B a5 rfl rfl rfl) ?_
 refine .lo rfl<|.q .fj<|.zn ?_
 refine .cond rfl (λM=>?_) λM=>?_
 have b7:F≠m:=λe=>by subst e;simp at M
 rw[if_neg b7]at r
 refine .sr<|.mo rfl<|.mo rfl<|.mo rfl<|.mo rfl<|.q (.cu a B U rfl rfl rfl) ?_
 refine .lo rfl ?_
 refine .bb d n a4 (λc4=>?_)
 refine .eM d n a4 m (λV Y=>?_)
 refine .zn<|.region<|.mo rfl ?_
 refine .ia (d+1) .add ?_
 refine .ag rfl<|.nil<|bz<|aD<|.region<|.mo rfl ?_
 refine .ia (a+1) .add ?_
 refine .ag rfl<|.nil ?_
 ·first
   |refine bf (a+1,d+1,f.set d m,V) ⟨⟨by simp only;omega,by simp only;omega,by simp only;omega,by simp only;omega⟩,⟨by simp only[List.length_set];exact s,λj o=>?_,?_⟩,Y⟩ (by simp only;omega) kE.c.c.c.c rH
    ·simp only at o⊢
     rw[List.getElem?_set_ne (by omega)]
     exact t j (by omega)
    ·simp only
     rw[r, <-w,ad2,List.take_set_of_le (ad0 _),List.getElem?_set_self (by omega)]
     rfl
   |exact bf (a+1,d,f,A) ⟨⟨by simp only;omega,by simp only;omega,by simp only;omega,by simp only;omega⟩,⟨s,λj o=>t j (by simp only at o;omega),by simp only;rw[r];exact w⟩,n⟩ (by simp only;omega) kE.c.c.c.c rH
 have b0:F=m:=by have N:m=F:=(by simpa using M);exact N.symm
 rw[if_pos b0]at r
 refine .skip<|bz<|aD<|.region<|.mo rfl ?_
 refine .ia (a+1) .add ?_
 refine .ag rfl<|.nil ?_
 ·first
   |refine bf (a+1,d+1,f.set d m,V) ⟨⟨by simp only;omega,by simp only;omega,by simp only;omega,by simp only;omega⟩,⟨by simp only[List.length_set];exact s,λj o=>?_,?_⟩,Y⟩ (by simp only;omega) kE.c.c.c.c rH
    ·simp only at o⊢
     rw[List.getElem?_set_ne (by omega)]
     exact t j (by omega)
    ·simp only
     rw[r, <-w,ad2,List.take_set_of_le (ad0 _),List.getElem?_set_self (by omega)]
     rfl
   |exact bf (a+1,d,f,A) ⟨⟨by simp only;omega,by simp only;omega,by simp only;omega,by simp only;omega⟩,⟨s,λj o=>t j (by simp only at o;omega),by simp only;rw[r];exact w⟩,n⟩ (by simp only;omega) kE.c.c.c.c rH
 have O:k+a=xs.length:=by have:=bo L;omega
 rw[O,List.take_length]at w
 have c0:d<=f.length:=by omega
 refine .exit<|bD<|bH<|bF<|aD<|.sr<|.mo rfl<|.mo rfl ?_
 refine .q (.sR d xs.length ⟨_,rfl⟩ rfl (by omega) (by omega) rfl) ?_
 refine .Aa d n (by omega) rfl (λW G=>?_)
 rw[w]at G
 have i3:=G.aw
 refine .z<|.mo rfl<|.mo rfl ?_
 refine .q (.sR 0 d rfl ⟨_,rfl⟩ (by omega) (by omega) rfl) ?_
 refine .az rfl ?_
 refine .ret (br (aL (dn (br (aL (aR _ (.one (.tmp rfl)) (.one [0] _) ?_))))))
 ·first
   |exact⟨W,by simp[take],G⟩
   |exact⟨T0,by simp[take],by rw[D];exact h⟩
 have Q:¬p=x:=λe=>by subst e;simp at K
 rw[if_neg Q,D,show xs.take k++[x]=xs.take (k+1) by rw[ad2,S];rfl]at E
 refine .skip<|bz<|aD<|.region<|.mo rfl ?_
 refine .ia (k+1) .add ?_
 refine .ag rfl<|.nil ?_
 ·exact bf (k+1) ⟨by omega,by omega,E⟩ (by omega) kE.c.c rH
 have O:k=xs.length:=by have:=bo I;omega
 subst O
 rw[List.take_length]at D
 refine .exit<|bD<|bH<|bF<|aD<|.sr<|.mo rfl<|.az rfl ?_
 refine .ret (aR _ (.one (.tmp rfl)) (.one [0] _) ?_)
 ·first
   |exact⟨W,by simp[take],G⟩
   |exact⟨T0,by simp[take],by rw[D];exact h⟩
end Go.Proofs.YtkkmbiojicgobaaGreatDoor
