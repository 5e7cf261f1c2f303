/- What the law 'ExpA' uses. No condition. -/
import Derived.Test.YtdljmchhecoakaaGreatKExpAB
import Derived.Test.YtdljmchhecoakaaGreatKExpAD
import Derived.Test.YtdljmchhecoakaaGreatKExpAH
namespace Go.Proofs.YtdljmchhecoakaaGreat
open Tryz (prog)
set_option linter.unusedVariables false
set_option maxRecDepth 4000
def fM:List ByteArray->List ByteArray
 |x::y::r=>if x=y then fM (y::r)else x::fM (y::r)
 |l=>l
theorem ue(p x:ByteArray):∀l:List ByteArray,fM (l++[p]++[x])=if p=x then fM (l++[p])else fM (l++[p])++[x]
 |[]=>by
  simp only[List.nil_append,List.cons_append,fM]
  split
  ·rename_i h;subst h;rfl
  ·rfl
 |[a]=>by
  have c:=ue p x []
  simp only[List.nil_append,List.cons_append]at c
  simp only[List.nil_append,List.cons_append,fM]
  rw[show(if p=x then [x]else [p,x])=fM [p,x] by simp[fM],c]
  by_cases d:a=p<;>by_cases e:p=x<;>simp[d,e,fM]
 |a::b::l=>by
  have c:=ue p x (b::l)
  simp only[List.cons_append]at c
  simp only[List.cons_append,fM]
  rw[c]
  by_cases d:a=b<;>by_cases e:p=x<;>simp[d,e]
theorem yl{xs:List ByteArray}{i:Nat}{p x:ByteArray}(c:xs[i]? =some p)(d:xs[i+1]? =some x):fM (xs.take (i+2))=if p=x then fM (xs.take (i+1))else fM (xs.take (i+1))++[x]:=by
 have a:xs.take (i+1)=xs.take i++[p]:=by rw[List.take_add_one,c];rfl
 have b:xs.take (i+2)=xs.take i++[p]++[x]:=by rw[List.take_add_one,d,a];rfl
 rw[b,a]
 exact ue p x _
theorem yi:∀l:List ByteArray,(fM l).length<=l.length
 |[]=>Nat.le_refl _
 |[x]=>Nat.le_refl _
 |x::y::r=>by
  have a:=yi (y::r)
  simp only[fM]
  split
  ·simp only[List.length_cons]at a⊢;omega
  ·simp only[List.length_cons]at a⊢;omega
theorem yk{l:List ByteArray}(h:l.length<2):fM l=l:=by
 match l,h with
 |[],_=>rfl
 |[x],_=>rfl
theorem rP(s:ByteArray):∀l:List ByteArray,s∈fM l↔s∈l
 |[]=>Iff.rfl
 |[x]=>Iff.rfl
 |x::y::r=>by
  have a:=rP s (y::r)
  simp only[fM]
  split
  ·rename_i h;subst h;rw[a];simp
  ·rw[List.mem_cons,a];simp
theorem yj:∀l:List ByteArray,(l.Pairwise λa b=>dR b a=false)->(fM l).Pairwise λa b=>dR a b=true
 |[],_=>List.Pairwise.nil
 |[x],_=>List.pairwise_singleton _ _
 |x::y::r,h=>by
  rw[List.pairwise_cons]at h
  have e:=yj (y::r) h.2
  simp only[fM]
  split
  ·exact e
  ·rename_i c
   refine List.pairwise_cons.2 ⟨λz k=>?_,e⟩
   have d:=(rP z (y::r)).1 k
   have f:=h.1 z d
   cases h2:dR x z with
   |true=>rfl
   |false=>
    exfalso
    have j:x=z:=qY h2 f
    subst j
    rcases List.mem_cons.1 d with h3|h3
    ·exact c h3
    ·have g:=(List.pairwise_cons.1 h.2).1 x h3
     have i:=h.1 y (by simp)
     exact c (qY g i)
theorem Df(v:Value)(xs:List ByteArray)(T:ay)(R:aB)(h:OS 9 1 cg v xs T)(hl:xs.length<=1000000000):
  Spec prog 103 [v] R [T] λu H'=>∃T',H'=[T']/\OS 9 1 cg u (fM xs) T':=by
 have iv:=h.ap
 by_cases H:xs.length<2
 ·skip
  refine Spec.body Tryz.func103 rfl Tryz.results103 Tryz.ntmps103 rfl ?_
  refine .sr<|.ag rfl<|.zs<|.sr<|.mo rfl<|.q (.dK h) ?_
  refine .q .lss<|.zn ?_
  refine .cond rfl (λs=>?_) λs=>?_
  refine .sr<|.mo rfl<|.az rfl ?_
  refine .ret (aH (bp _ (.one (.tmp rfl)) (.one [0] _) ?_))
  ·exact⟨T,by simp[take],by rw[yk H];exact h⟩
  ·have:=bA s;omega
 obtain⟨W,Y,a7⟩:=h
 rcases a7 with⟨_,L,_⟩|⟨b,g,c,f,rfl,rfl,a5,a6,V,hr⟩
 ·rw[L]at H;simp at H
 have h:OS 9 1 cg (.slice (some ⟨b,g,none⟩) xs.length f) xs [(b,.cells c 9 (0,0))]:=⟨W,Y,.inr ⟨b,g,c,f,rfl,rfl,a5,a6,V,hr⟩⟩
 clear W Y hr V
 generalize b6:[(b,Obj.cells c 9 (0,0))]=T0 at h⊢
 refine Spec.body Tryz.func103 rfl Tryz.results103 Tryz.ntmps103 rfl ?_
 refine .sr<|.ag rfl<|.zs<|.sr<|.mo rfl<|.q (.dK h) ?_
 refine .q .lss<|.zn ?_
 refine .cond rfl (λs=>?_) λs=>?_
 ·have:=bS s;omega
 refine .kn<|.seq<|.sr<|.az rfl<|.block ?_
 refine .loop (X:=Nat) (λk=>1<=k/\k<=xs.length/\fM (xs.take k)=xs.take k) (λk=>[(0,.slice (some ⟨b,g,none⟩) xs.length f),(3,iN k)]) (λk=>[T0]) (λk=>xs.length-k) 1 ⟨Nat.le_refl _,by omega,yk (by rw[List.length_take];omega)⟩ kE.c.c rH ?_
 rintro k ⟨b7,b9,E⟩
 refine .seq<|.sr<|.mo rfl<|.mo rfl<|.q (.dK h) ?_
 refine .q .lss<|.zn ?_
 refine .cond rfl (λG=>?_) λG=>?_
 have b3:k<xs.length:=cb G
 obtain⟨x,S⟩:=bL b3
 obtain⟨p,F⟩:∃x,xs[k-1]? =some x:=⟨_,aX (by omega)⟩
 have t:=yl (xs:=xs) (i:=k-1) F (by rw[show k-1+1=k by omega];exact S)
 rw[show k-1+2=k+1 by omega,show k-1+1=k by omega]at t
 refine .kn<|.seq<|.block<|.seq ?_
 refine .gn mixed (by kernel_rfl) ?_
 refine .mo rfl<|.mo rfl ?_
 refine .aL k h S (λc0=>?_)
 refine .lo rfl<|.mo rfl<|.mo rfl ?_
 refine .ia (k-1) .sub ?_
 refine .aL (k-1) h F (λc1=>?_)
 refine .lo rfl<|.q .dP<|.zn ?_
 refine .cond rfl (λI=>?_) λI=>?_
 have Q:p=x:=(bS I).symm
 rw[if_pos Q,E]at t
 refine .sr<|.mo rfl<|.mo rfl ?_
 refine .q (.wO k xs.length ⟨_,rfl⟩ rfl (by omega) (by omega) rfl) ?_
 rw[OW (by omega)]
 refine .ag rfl<|.zs<|.sr<|.az rfl<|.block ?_
 refine .loop (X:=Nat×Nat×List ByteArray×ay) (λy=>(1<=y.1/\k+y.1<=xs.length/\k<=y.2.1/\y.2.1+1<=k+y.1)/\(y.2.2.1.length=xs.length/\(∀j,k+y.1<=j+1->y.2.2.1[j]? =xs[j]?)/\y.2.2.1.take y.2.1=fM (xs.take (k+y.1)))/\OS 9 1 cg (.slice (some ⟨b,g,none⟩) xs.length f) y.2.2.1 y.2.2.2) (λy=>[(0,.slice (some ⟨b,g,none⟩) xs.length f),(3,iN y.2.1),(4,.slice (some ⟨b,g+k*1,none⟩) (xs.length-k) (f-k)),(5,iN y.1)]) (λy=>[y.2.2.2]) (λy=>xs.length-y.1) (1,k,xs,T0) ⟨⟨Nat.le_refl _,by simp only;omega,Nat.le_refl _,Nat.le_refl _⟩,⟨rfl,λj _=>rfl,t.symm⟩,h⟩ kE.c.c.c.c rH ?_
 rintro⟨a,d,l,r⟩ ⟨⟨a9,b0,b1,b2⟩,⟨A,B,C⟩,n⟩
 simp only at a9 b0 b1 b2 A B C n⊢
 refine .seq<|.sr<|.mo rfl<|.mo rfl<|.q (.zW rfl) ?_
 refine .q .lss<|.zn ?_
 refine .cond rfl (λJ=>?_) λJ=>?_
 have b4:k+a<xs.length:=by have:=bS J;omega
 obtain⟨m,a0⟩:=bL b4
 obtain⟨D,Z⟩:∃x,xs[k+a-1]? =some x:=⟨_,aX (by omega)⟩
 have w:=yl (xs:=xs) (i:=k+a-1) Z (by rw[show k+a-1+1=k+a by omega];exact a0)
 rw[show k+a-1+2=k+(a+1) by omega,show k+a-1+1=k+a by omega]at w
 have a3:OS 9 1 cg (.slice (some ⟨b,g,none⟩) l.length f) l r:=by rw[A];exact n
 have o:=a3.Rk (R':=sg r) (λ_ F=>F) k (by omega)
 rw[List.length_drop,A]at o
 have U:(l.drop k)[a]? =some m:=by rw[List.getElem?_drop,B _ (by omega)];exact a0
 have a2:(l.drop k)[a-1]? =some D:=by rw[List.getElem?_drop,B _ (by omega),show k+(a-1)=k+a-1 by omega];exact Z
 have px:PS r (ei (.slice (some ⟨b,g+k*1,none⟩) (xs.length-k) (f-k)) (a*1)) (cg m):=⟨o.pc U⟩
 have pp:PS r (ei (.slice (some ⟨b,g+k*1,none⟩) (xs.length-k) (f-k)) ((a-1)*1)) (cg D):=⟨o.pc a2⟩
 obtain⟨y1,a1⟩:∃x,l[d]? =some x:=⟨_,aX (by omega)⟩
 refine .kn<|.seq<|.block<|.seq ?_
 refine .gn mixed (by kernel_rfl) ?_
 refine .mo rfl<|.mo rfl<|.q (.bx a o U rfl rfl rfl) ?_
 refine .lo rfl<|.mo rfl<|.mo rfl ?_
 refine .ia (a-1) .sub ?_
 refine .q (.bx (a-1) o a2 rfl rfl rfl) ?_
 refine .lo rfl<|.q .fU<|.zn ?_
 refine .cond rfl (λK=>?_) λK=>?_
 have b5:D≠m:=λe=>by subst e;simp at K
 rw[if_neg b5]at w
 refine .sr<|.mo rfl<|.mo rfl<|.mo rfl<|.mo rfl<|.q (.bx a o U rfl rfl rfl) ?_
 refine .lo rfl ?_
 refine .aL d n a1 (λc2=>?_)
 refine .dv d n a1 m (λT2 a4=>?_)
 refine .zn<|.region<|.mo rfl ?_
 refine .ia (d+1) .add ?_
 refine .ag rfl<|.nil<|aV<|av<|.region<|.mo rfl ?_
 refine .ia (a+1) .add ?_
 refine .ag rfl<|.nil ?_
 ·refine aW (a+1,d+1,l.set d m,T2) ⟨⟨by simp only;omega,by simp only;omega,by simp only;omega,by simp only;omega⟩,⟨by simp only[List.length_set];exact A,λj O=>?_,?_⟩,a4⟩ (by simp only;omega) kE.c.c.c.c rH
  ·simp only at O⊢
   rw[List.getElem?_set_ne (by omega)]
   exact B j (by omega)
  ·simp only
   rw[w, <-C,List.take_add_one,List.take_set_of_le (Nat.le_refl _),List.getElem?_set_self (by omega)]
   rfl
 have a8:D=m:=by have L:m=D:=(by simpa using K);exact L.symm
 rw[if_pos a8]at w
 refine .skip<|aV<|av<|.region<|.mo rfl ?_
 refine .ia (a+1) .add ?_
 refine .ag rfl<|.nil ?_
 ·exact aW (a+1,d,l,r) ⟨⟨by simp only;omega,by simp only;omega,by simp only;omega,by simp only;omega⟩,⟨A,λj O=>B j (by simp only at O;omega),by simp only;rw[w];exact C⟩,n⟩ (by simp only;omega) kE.c.c.c.c rH
 have N:k+a=xs.length:=by have:=bA J;omega
 rw[N,List.take_length]at C
 have b8:d<=l.length:=by omega
 refine .exit<|bm<|bs<|bo<|av<|.sr<|.mo rfl<|.mo rfl ?_
 refine .q (.wO d xs.length ⟨_,rfl⟩ rfl (by omega) (by omega) rfl) ?_
 refine .Da d n (by omega) rfl (λT3 M=>?_)
 rw[C]at M
 have i3:=M.ap
 refine .z<|.mo rfl<|.mo rfl ?_
 refine .q (.wO 0 d rfl ⟨_,rfl⟩ (by omega) (by omega) rfl) ?_
 refine .az rfl ?_
 refine .ret (bh (aH (cB (bh (aH (bp _ (.one (.tmp rfl)) (.one [0] _) ?_))))))
 ·exact⟨T3,by simp[take],M⟩
 have Q:¬p=x:=λe=>by subst e;simp at I
 rw[if_neg Q,E,show xs.take k++[x]=xs.take (k+1) by rw[List.take_add_one,S];rfl]at t
 refine .skip<|aV<|av<|.region<|.mo rfl ?_
 refine .ia (k+1) .add ?_
 refine .ag rfl<|.nil ?_
 ·exact aW (k+1) ⟨by omega,by omega,t⟩ (by omega) kE.c.c rH
 have N:k=xs.length:=by have:=bA G;omega
 subst N
 rw[List.take_length]at E
 refine .exit<|bm<|bs<|bo<|av<|.sr<|.mo rfl<|.az rfl ?_
 refine .ret (bp _ (.one (.tmp rfl)) (.one [0] _) ?_)
 ·exact⟨T0,by simp[take],by rw[E];exact h⟩
abbrev oZ(l:List ByteArray):Prop:=l.Pairwise λa b=>dR a b=true
theorem RU{l m:List ByteArray}(c:oZ l)(d:oZ m)(h:∀s,s∈l↔s∈m):l=m:=by
 have f:l.Nodup:=by have:=xL id c;simpa using this
 have g:m.Nodup:=by have:=xL id d;simpa using this
 refine(CA id d ((List.perm_ext_iff_of_nodup f g).2 h) (c.imp λ{a b} e=>?_))
 exact wH.lT e
def fF(l:List ByteArray)(s:ByteArray):List ByteArray:=if s∈l then l else gP dR s l
theorem N0{l:List ByteArray}{s x:ByteArray}:x∈fF l s↔x∈l\/x=s:=by
 unfold fF
 split
 ·rename_i h
  exact⟨.inl,λa=>a.elim id λe=>e▸h⟩
 ·rw[qE.mem_iff,List.mem_cons]
  exact Or.comm
theorem RX{l:List ByteArray}{s:ByteArray}(h:oZ l):oZ (fF l s):=by
 unfold fF
 split
 ·exact h
 ·rename_i a
  refine uN (lt:=dR) (λx y z=>tp) h λy b=>?_
  cases h1:dR s y with
  |true=>exact .inl rfl
  |false=>
   right
   cases h2:dR y s with
   |true=>rfl
   |false=>exact absurd (qY h1 h2▸b) a
theorem Ry{l:List ByteArray}{s:ByteArray}:(fF l s).length<=l.length+1:=by
 unfold fF
 split
 ·omega
 ·rw[zt];omega
theorem vA{x:ByteArray}:∀{b a:List ByteArray},x∈b.foldl fF a↔x∈a\/x∈b
 |[],a=>by simp
 |s::b,a=>by
  rw[List.foldl_cons,vA (b:=b),N0,List.mem_cons,or_assoc]
theorem BZ:∀{b a:List ByteArray},oZ a->oZ (b.foldl fF a)
 |[],_,h=>h
 |s::b,a,h=>by rw[List.foldl_cons];exact BZ (RX h)
theorem BQ:∀{b a:List ByteArray},(b.foldl fF a).length<=a.length+b.length
 |[],a=>by simp
 |s::b,a=>by
  have c:=BQ (b:=b) (a:=fF a s)
  have d:=Ry (l:=a) (s:=s)
  rw[List.foldl_cons,List.length_cons];omega
theorem Rt{xs ys:List ByteArray}(p:ByteArray->Bool)(c:ys.Perm xs)(d:ys.Pairwise λa b=>dR b a=false):(fM ys).filter p=(xs.filter p).foldl fF []:=by
 refine RU ((yj ys d).sublist List.filter_sublist) (BZ List.Pairwise.nil) λs=>?_
 rw[List.mem_filter,rP,vA,List.mem_filter,c.mem_iff]
 simp
end Go.Proofs.YtdljmchhecoakaaGreat
