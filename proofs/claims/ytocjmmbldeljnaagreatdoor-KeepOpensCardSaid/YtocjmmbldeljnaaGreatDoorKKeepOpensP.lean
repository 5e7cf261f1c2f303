/- What the law 'KeepOpens' uses. No condition. -/
import Derived.Test.YtocjmmbldeljnaaGreatDoorKKeepOpensB
import Derived.Test.YtocjmmbldeljnaaGreatDoorKKeepOpensD
import Derived.Test.YtocjmmbldeljnaaGreatDoorKKeepOpensH
set_option linter.unusedSimpArgs false
set_option linter.unusedVariables false
namespace Go.Proofs.YtocjmmbldeljnaaGreatDoor
set_option linter.defProp false
def aeA:=@Nat.le_refl
def aeB:=@List.cons_append
def aeC:=@List.take_add_one
def aeD:=@List.pairwise_cons
open Tryz
set_option linter.unusedVariables false
set_option maxRecDepth 4000
def dY:List ByteArray->List ByteArray
 |x::y::r=>if x=y then dY (y::r)else x::dY (y::r)
 |l=>l
theorem rT(p x:ByteArray):∀l:List ByteArray,dY (l++[p]++[x])=if p=x then dY (l++[p])else dY (l++[p])++[x]
 |[]=>by
  simp only[List.nil_append,aeB,dY]
  split
  ·rename_i h;subst h;rfl
  ·rfl
 |[a]=>by
  have c:=rT p x []
  simp only[List.nil_append,aeB]at c
  simp only[List.nil_append,aeB,dY]
  rw[show(if p=x then [x]else [p,x])=dY [p,x] by simp[dY],c]
  by_cases d:a=p<;>by_cases e:p=x<;>simp[d,e,dY]
 |a::b::l=>by
  have c:=rT p x (b::l)
  simp only[aeB]at c
  simp only[aeB,dY]
  rw[c]
  by_cases d:a=b<;>by_cases e:p=x<;>simp[d,e]
theorem vb{xs:List ByteArray}{i:Nat}{p x:ByteArray}(c:xs[i]? =some p)(d:xs[i+1]? =some x):dY (xs.take (i+2))=if p=x then dY (xs.take (i+1))else dY (xs.take (i+1))++[x]:=by
 have a:xs.take (i+1)=xs.take i++[p]:=by rw[aeC,c];rfl
 have b:xs.take (i+2)=xs.take i++[p]++[x]:=by rw[aeC,d,a];rfl
 rw[b,a]
 exact rT p x _
theorem u4:∀l:List ByteArray,(dY l).length<=l.length
 |[]=>aeA _
 |[x]=>aeA _
 |x::y::r=>by
  have a:=u4 (y::r)
  simp only[dY]
  split
  ·simp only[List.length_cons]at a⊢;omega
  ·simp only[List.length_cons]at a⊢;omega
theorem u6{l:List ByteArray}(h:l.length<2):dY l=l:=by
 match l,h with
 |[],_=>rfl
 |[x],_=>rfl
theorem rS(s:ByteArray):∀l:List ByteArray,s∈dY l↔s∈l
 |[]=>Iff.rfl
 |[x]=>Iff.rfl
 |x::y::r=>by
  have a:=rS s (y::r)
  simp only[dY]
  split
  ·rename_i h;subst h;rw[a];simp
  ·rw[List.mem_cons,a];simp
theorem u5:∀l:List ByteArray,(l.Pairwise λa b=>cw b a=false)->(dY l).Pairwise λa b=>cw a b=true
 |[],_=>List.Pairwise.nil
 |[x],_=>List.pairwise_singleton _ _
 |x::y::r,h=>by
  rw[aeD]at h
  have e:=u5 (y::r) h.2
  simp only[dY]
  split
  ·exact e
  ·rename_i c
   refine aeD.2 ⟨λz k=>?_,e⟩
   have d:=(rS z (y::r)).1 k
   have f:=h.1 z d
   cases h2:cw x z with
   |true=>rfl
   |false=>
    exfalso
    have j:x=z:=tF h2 f
    subst j
    rcases List.mem_cons.1 d with h3|h3
    ·exact c h3
    ·have g:=(aeD.1 h.2).1 x h3
     have i:=h.1 y (by simp)
     exact c (tF g i)
theorem z6(v:Value)(xs:List ByteArray)(T:au)(R:ao)(h:OS 9 1 bL v xs T)(hl:xs.length<=1000000000):
  Spec prog 237 [v] R [T] λu H'=>∃T',H'=[T']/\OS 9 1 bL u (dY xs) T':=by
 have iv:=h.ay
 by_cases J:xs.length<2
 ·skip
  refine Spec.body func237 rfl results237 ntmps237 rfl ?_
  refine .sr<|.ag rfl<|.zs<|.sr<|.mo rfl<|.q (.kD h) ?_
  refine .q .lss<|.zn ?_
  refine .cond rfl (λC=>?_) λC=>?_
  refine .sr<|.mo rfl<|.az rfl ?_
  refine .ret (aR (aO _ (.one (.tmp rfl)) (.one [0] _) ?_))
  ·exact⟨T,by simp[take],by rw[u6 J];exact h⟩
  ·have:=ba C;omega
 obtain⟨a0,a1,a9⟩:=h
 rcases a9 with⟨_,N,_⟩|⟨b,l,c,g,rfl,rfl,a7,a8,Z,hr⟩
 ·rw[N]at J;simp at J
 have h:OS 9 1 bL (.slice (some ⟨b,l,none⟩) xs.length g) xs [(b,.cells c 9 (0,0))]:=⟨a0,a1,.inr ⟨b,l,c,g,rfl,rfl,a7,a8,Z,hr⟩⟩
 clear a0 a1 hr Z
 generalize b8:[(b,Obj.cells c 9 (0,0))]=T0 at h⊢
 refine Spec.body func237 rfl results237 ntmps237 rfl ?_
 refine .sr<|.ag rfl<|.zs<|.sr<|.mo rfl<|.q (.kD h) ?_
 refine .q .lss<|.zn ?_
 refine .cond rfl (λC=>?_) λC=>?_
 ·have:=bp C;omega
 refine .kn<|.seq<|.sr<|.az rfl<|.block ?_
 refine .loop (X:=Nat) (λk=>1<=k/\k<=xs.length/\dY (xs.take k)=xs.take k) (λk=>[(0,.slice (some ⟨b,l,none⟩) xs.length g),(3,iN k)]) (λk=>[T0]) (λk=>xs.length-k) 1 ⟨aeA _,by omega,u6 (by rw[List.length_take];omega)⟩ kE.c.c rH ?_
 rintro k ⟨b9,c1,D⟩
 refine .seq<|.sr<|.mo rfl<|.mo rfl<|.q (.kD h) ?_
 refine .q .lss<|.zn ?_
 refine .cond rfl (λI=>?_) λI=>?_
 have b5:k<xs.length:=fg I
 obtain⟨x,S⟩:=dM b5
 obtain⟨p,H⟩:∃x,xs[k-1]? =some x:=⟨_,bd (by omega)⟩
 have E:=vb (xs:=xs) (i:=k-1) H (by rw[show k-1+1=k by omega];exact S)
 rw[show k-1+2=k+1 by omega,show k-1+1=k by omega]at E
 refine .kn<|.seq<|.block<|.seq ?_
 refine .kG mixed (by kernel_rfl) ?_
 refine .mo rfl<|.mo rfl ?_
 refine .aU k h S (λc2=>?_)
 refine .lo rfl<|.mo rfl<|.mo rfl ?_
 refine .ia (k-1) .sub ?_
 refine .aU (k-1) h H (λc3=>?_)
 refine .lo rfl<|.q .lz<|.zn ?_
 refine .cond rfl (λK=>?_) λK=>?_
 have Q:p=x:=(bp K).symm
 rw[if_pos Q,D]at E
 refine .sr<|.mo rfl<|.mo rfl ?_
 refine .q (.tI k xs.length ⟨_,rfl⟩ rfl (by omega) (by omega) rfl) ?_
 rw[Ob (by omega)]
 refine .ag rfl<|.zs<|.sr<|.az rfl<|.block ?_
 refine .loop (X:=Nat×Nat×List ByteArray×au) (λy=>(1<=y.1/\k+y.1<=xs.length/\k<=y.2.1/\y.2.1+1<=k+y.1)/\(y.2.2.1.length=xs.length/\(∀j,k+y.1<=j+1->y.2.2.1[j]? =xs[j]?)/\y.2.2.1.take y.2.1=dY (xs.take (k+y.1)))/\OS 9 1 bL (.slice (some ⟨b,l,none⟩) xs.length g) y.2.2.1 y.2.2.2) (λy=>[(0,.slice (some ⟨b,l,none⟩) xs.length g),(3,iN y.2.1),(4,.slice (some ⟨b,l+k*1,none⟩) (xs.length-k) (g-k)),(5,iN y.1)]) (λy=>[y.2.2.2]) (λy=>xs.length-y.1) (1,k,xs,T0) ⟨⟨aeA _,by simp only;omega,aeA _,aeA _⟩,⟨rfl,λj _=>rfl,E.symm⟩,h⟩ kE.c.c.c.c rH ?_
 rintro⟨a,d,f,A⟩ ⟨⟨b1,b2,b3,b4⟩,⟨s,t,w⟩,n⟩
 simp only at b1 b2 b3 b4 s t w n⊢
 refine .seq<|.sr<|.mo rfl<|.mo rfl<|.q (.eY rfl) ?_
 refine .q .lss<|.zn ?_
 refine .cond rfl (λL=>?_) λL=>?_
 have b6:k+a<xs.length:=by have:=bp L;omega
 obtain⟨m,a3⟩:=dM b6
 obtain⟨F,a2⟩:∃x,xs[k+a-1]? =some x:=⟨_,bd (by omega)⟩
 have r:=vb (xs:=xs) (i:=k+a-1) a2 (by rw[show k+a-1+1=k+a by omega];exact a3)
 rw[show k+a-1+2=k+(a+1) by omega,show k+a-1+1=k+a by omega]at r
 have a6:OS 9 1 bL (.slice (some ⟨b,l,none⟩) f.length g) f A:=by rw[s];exact n
 have B:=a6.PZ (R':=sg A) (λ_ H=>H) k (by omega)
 rw[List.length_drop,s]at B
 have U:(f.drop k)[a]? =some m:=by rw[List.getElem?_drop,t _ (by omega)];exact a3
 have a5:(f.drop k)[a-1]? =some F:=by rw[List.getElem?_drop,t _ (by omega),show k+(a-1)=k+a-1 by omega];exact a2
 have px:PS A (eA (.slice (some ⟨b,l+k*1,none⟩) (xs.length-k) (g-k)) (a*1)) (bL m):=⟨B.pc U⟩
 have pp:PS A (eA (.slice (some ⟨b,l+k*1,none⟩) (xs.length-k) (g-k)) ((a-1)*1)) (bL F):=⟨B.pc a5⟩
 obtain⟨y1,a4⟩:∃x,f[d]? =some x:=⟨_,bd (by omega)⟩
 refine .kn<|.seq<|.block<|.seq ?_
 refine .kG mixed (by kernel_rfl) ?_
 refine .mo rfl<|.mo rfl<|.q (.cB a B U rfl rfl rfl) ?_
 refine .lo rfl<|.mo rfl<|.mo rfl ?_
 refine .ia (a-1) .sub ?_
 refine .q (.cB (a-1) B a5 rfl rfl rfl) ?_
 refine .lo rfl<|.q .qB<|.zn ?_
 refine .cond rfl (λM=>?_) λM=>?_
 have b7:F≠m:=λe=>by subst e;simp at M
 rw[if_neg b7]at r
 refine .sr<|.mo rfl<|.mo rfl<|.mo rfl<|.mo rfl<|.q (.cB a B U rfl rfl rfl) ?_
 refine .lo rfl ?_
 refine .aU d n a4 (λc4=>?_)
 refine .dC d n a4 m (λV Y=>?_)
 refine .zn<|.region<|.mo rfl ?_
 refine .ia (d+1) .add ?_
 refine .ag rfl<|.nil<|bz<|aG<|.region<|.mo rfl ?_
 refine .ia (a+1) .add ?_
 refine .ag rfl<|.nil ?_
 ·first
   |refine br (a+1,d+1,f.set d m,V) ⟨⟨by simp only;omega,by simp only;omega,by simp only;omega,by simp only;omega⟩,⟨by simp only[List.length_set];exact s,λj o=>?_,?_⟩,Y⟩ (by simp only;omega) kE.c.c.c.c rH
    ·simp only at o⊢
     rw[List.getElem?_set_ne (by omega)]
     exact t j (by omega)
    ·simp only
     rw[r, <-w,aeC,List.take_set_of_le (aeA _),List.getElem?_set_self (by omega)]
     rfl
   |exact br (a+1,d,f,A) ⟨⟨by simp only;omega,by simp only;omega,by simp only;omega,by simp only;omega⟩,⟨s,λj o=>t j (by simp only at o;omega),by simp only;rw[r];exact w⟩,n⟩ (by simp only;omega) kE.c.c.c.c rH
 have b0:F=m:=by have N:m=F:=(by simpa using M);exact N.symm
 rw[if_pos b0]at r
 refine .skip<|bz<|aG<|.region<|.mo rfl ?_
 refine .ia (a+1) .add ?_
 refine .ag rfl<|.nil ?_
 ·first
   |refine br (a+1,d+1,f.set d m,V) ⟨⟨by simp only;omega,by simp only;omega,by simp only;omega,by simp only;omega⟩,⟨by simp only[List.length_set];exact s,λj o=>?_,?_⟩,Y⟩ (by simp only;omega) kE.c.c.c.c rH
    ·simp only at o⊢
     rw[List.getElem?_set_ne (by omega)]
     exact t j (by omega)
    ·simp only
     rw[r, <-w,aeC,List.take_set_of_le (aeA _),List.getElem?_set_self (by omega)]
     rfl
   |exact br (a+1,d,f,A) ⟨⟨by simp only;omega,by simp only;omega,by simp only;omega,by simp only;omega⟩,⟨s,λj o=>t j (by simp only at o;omega),by simp only;rw[r];exact w⟩,n⟩ (by simp only;omega) kE.c.c.c.c rH
 have O:k+a=xs.length:=by have:=ba L;omega
 rw[O,List.take_length]at w
 have c0:d<=f.length:=by omega
 refine .exit<|bk<|bw<|bq<|aG<|.sr<|.mo rfl<|.mo rfl ?_
 refine .q (.tI d xs.length ⟨_,rfl⟩ rfl (by omega) (by omega) rfl) ?_
 refine .zY d n (by omega) rfl (λW G=>?_)
 rw[w]at G
 have i3:=G.ay
 refine .z<|.mo rfl<|.mo rfl ?_
 refine .q (.tI 0 d rfl ⟨_,rfl⟩ (by omega) (by omega) rfl) ?_
 refine .az rfl ?_
 refine .ret (bi (aR (cK (bi (aR (aO _ (.one (.tmp rfl)) (.one [0] _) ?_))))))
 ·first
   |exact⟨W,by simp[take],G⟩
   |exact⟨T0,by simp[take],by rw[D];exact h⟩
 have Q:¬p=x:=λe=>by subst e;simp at K
 rw[if_neg Q,D,show xs.take k++[x]=xs.take (k+1) by rw[aeC,S];rfl]at E
 refine .skip<|bz<|aG<|.region<|.mo rfl ?_
 refine .ia (k+1) .add ?_
 refine .ag rfl<|.nil ?_
 ·exact br (k+1) ⟨by omega,by omega,E⟩ (by omega) kE.c.c rH
 have O:k=xs.length:=by have:=ba I;omega
 subst O
 rw[List.take_length]at D
 refine .exit<|bk<|bw<|bq<|aG<|.sr<|.mo rfl<|.az rfl ?_
 refine .ret (aO _ (.one (.tmp rfl)) (.one [0] _) ?_)
 ·first
   |exact⟨W,by simp[take],G⟩
   |exact⟨T0,by simp[take],by rw[D];exact h⟩
end Go.Proofs.YtocjmmbldeljnaaGreatDoor
