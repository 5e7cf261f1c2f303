/- What the law 'LookupJust' uses. No condition. -/
import Derived.Test.YtdljmchhecoakaaGreatKLookupJustB
import Derived.Test.YtdljmchhecoakaaGreatKLookupJustD
import Derived.Test.YtdljmchhecoakaaGreatKLookupJustH
namespace Go.Proofs.YtdljmchhecoakaaGreat
set_option linter.defProp false
def ad2:=@List.cons_append
def ad3:=@Nat.le_refl
def ad4:=@List.take_add_one
def ad5:=@List.mem_cons
def ad6:=@List.pairwise_cons
open Tryz
set_option linter.unusedVariables false
set_option maxRecDepth 4000
def gk:List ByteArray->List ByteArray
 |x::y::r=>if x=y then gk (y::r)else x::gk (y::r)
 |l=>l
theorem tN(p x:ByteArray):∀l:List ByteArray,gk (l++[p]++[x])=if p=x then gk (l++[p])else gk (l++[p])++[x]
 |[]=>by
  simp only[List.nil_append,ad2,gk]
  split
  ·rename_i h;subst h;rfl
  ·rfl
 |[a]=>by
  have c:=tN p x []
  simp only[List.nil_append,ad2]at c
  simp only[List.nil_append,ad2,gk]
  rw[show(if p=x then [x]else [p,x])=gk [p,x] by simp[gk],c]
  by_cases d:a=p<;>by_cases e:p=x<;>simp[d,e,gk]
 |a::b::l=>by
  have c:=tN p x (b::l)
  simp only[ad2]at c
  simp only[ad2,gk]
  rw[c]
  by_cases d:a=b<;>by_cases e:p=x<;>simp[d,e]
theorem xw{xs:List ByteArray}{i:Nat}{p x:ByteArray}(c:xs[i]? =some p)(d:xs[i+1]? =some x):gk (xs.take (i+2))=if p=x then gk (xs.take (i+1))else gk (xs.take (i+1))++[x]:=by
 have a:xs.take (i+1)=xs.take i++[p]:=by rw[ad4,c];rfl
 have b:xs.take (i+2)=xs.take i++[p]++[x]:=by rw[ad4,d,a];rfl
 rw[b,a]
 exact tN p x _
theorem xv{l:List ByteArray}(h:l.length<2):gk l=l:=by
 match l,h with
 |[],_=>rfl
 |[x],_=>rfl
theorem tM(s:ByteArray):∀l:List ByteArray,s∈gk l↔s∈l
 |[]=>Iff.rfl
 |[x]=>Iff.rfl
 |x::y::r=>by
  have a:=tM s (y::r)
  simp only[gk]
  split
  ·rename_i h;subst h;rw[a];simp
  ·rw[ad5,a];simp
theorem xu:∀l:List ByteArray,(l.Pairwise λa b=>ey b a=false)->(gk l).Pairwise λa b=>ey a b=true
 |[],_=>List.Pairwise.nil
 |[x],_=>List.pairwise_singleton _ _
 |x::y::r,h=>by
  rw[ad6]at h
  have e:=xu (y::r) h.2
  simp only[gk]
  split
  ·exact e
  ·rename_i c
   refine ad6.2 ⟨λz k=>?_,e⟩
   have d:=(tM z (y::r)).1 k
   have f:=h.1 z d
   cases h2:ey x z with
   |true=>rfl
   |false=>
    exfalso
    have j:x=z:=qP h2 f
    subst j
    rcases ad5.1 d with h3|h3
    ·exact c h3
    ·have g:=(ad6.1 h.2).1 x h3
     have i:=h.1 y (by simp)
     exact c (qP g i)
theorem CR(v:Value)(xs:List ByteArray)(T:ax)(R:ay)(h:OS 9 1 cG v xs T)(hl:xs.length<=1000000000):
  Spec prog 103 [v] R [T] λu H'=>∃T',H'=[T']/\OS 9 1 cG u (gk xs) T':=by
 have iv:=h.aB
 by_cases H:xs.length<2
 ·skip
  refine Spec.body func103 rfl results103 ntmps103 rfl<|.sr<|.ag rfl<|.zs<|.sr<|.mo rfl<|.q (.ep h)<|.q .lss<|.zn<|.cond rfl (λs=>?_) λs=>?_
  refine .sr<|.mo rfl<|.az rfl<|.ret (aK (bj _ (.one (.tmp rfl)) (.one [0] _) ?_))
  ·exact⟨T,by simp[take],by rw[xv H];exact h⟩
  ·have:=bF s;omega
 obtain⟨W,Y,a7⟩:=h
 rcases a7 with⟨_,L,_⟩|⟨b,g,c,f,rfl,rfl,a5,a6,V,hr⟩
 ·rw[L]at H;simp at H
 have h:OS 9 1 cG (.slice (some ⟨b,g,none⟩) xs.length f) xs [(b,.cells c 9 (0,0))]:=⟨W,Y,.inr ⟨b,g,c,f,rfl,rfl,a5,a6,V,hr⟩⟩
 clear W Y hr V
 generalize b6:[(b,Obj.cells c 9 (0,0))]=T0 at h⊢
 refine Spec.body func103 rfl results103 ntmps103 rfl<|.sr<|.ag rfl<|.zs<|.sr<|.mo rfl<|.q (.ep h)<|.q .lss<|.zn<|.cond rfl (λs=>?_) λs=>?_
 ·have:=bX s;omega
 refine .kn<|.seq<|.sr<|.az rfl<|.block<|.loop (X:=Nat) (λk=>1<=k/\k<=xs.length/\gk (xs.take k)=xs.take k) (λk=>[(0,.slice (some ⟨b,g,none⟩) xs.length f),(3,iN k)]) (λk=>[T0]) (λk=>xs.length-k) 1 ⟨ad3 _,by omega,xv (by rw[List.length_take];omega)⟩ kE.c.c rH ?_
 rintro k ⟨b7,b9,E⟩
 refine .seq<|.sr<|.mo rfl<|.mo rfl<|.q (.ep h)<|.q .lss<|.zn<|.cond rfl (λG=>?_) λG=>?_
 have b3:k<xs.length:=cy G
 obtain⟨x,S⟩:=bW b3
 obtain⟨p,F⟩:∃x,xs[k-1]? =some x:=⟨_,aV (by omega)⟩
 have t:=xw (xs:=xs) (i:=k-1) F (by rw[show k-1+1=k by omega];exact S)
 rw[show k-1+2=k+1 by omega,show k-1+1=k by omega]at t
 refine .kn<|.seq<|.block<|.seq<|.gd mixed (by kernel_rfl)<|.mo rfl<|.mo rfl ?_
 refine .aL k h S (λc0=>?_)
 refine .lo rfl<|.mo rfl<|.mo rfl<|.ia (k-1) .sub ?_
 refine .aL (k-1) h F (λc1=>?_)
 refine .lo rfl<|.q .eg<|.zn<|.cond rfl (λI=>?_) λI=>?_
 have Q:p=x:=(bX I).symm
 rw[if_pos Q,E]at t
 refine .sr<|.mo rfl<|.mo rfl<|.q (.vQ k xs.length ⟨_,rfl⟩ rfl (by omega) (by omega) rfl) ?_
 rw[OR (by omega)]
 refine .ag rfl<|.zs<|.sr<|.az rfl<|.block<|.loop (X:=Nat×Nat×List ByteArray×ax) (λy=>(1<=y.1/\k+y.1<=xs.length/\k<=y.2.1/\y.2.1+1<=k+y.1)/\(y.2.2.1.length=xs.length/\(∀j,k+y.1<=j+1->y.2.2.1[j]? =xs[j]?)/\y.2.2.1.take y.2.1=gk (xs.take (k+y.1)))/\OS 9 1 cG (.slice (some ⟨b,g,none⟩) xs.length f) y.2.2.1 y.2.2.2) (λy=>[(0,.slice (some ⟨b,g,none⟩) xs.length f),(3,iN y.2.1),(4,.slice (some ⟨b,g+k*1,none⟩) (xs.length-k) (f-k)),(5,iN y.1)]) (λy=>[y.2.2.2]) (λy=>xs.length-y.1) (1,k,xs,T0) ⟨⟨ad3 _,by simp only;omega,ad3 _,ad3 _⟩,⟨rfl,λj _=>rfl,t.symm⟩,h⟩ kE.c.c.c.c rH ?_
 rintro⟨a,d,l,r⟩ ⟨⟨a9,b0,b1,b2⟩,⟨A,B,C⟩,n⟩
 simp only at a9 b0 b1 b2 A B C n⊢
 refine .seq<|.sr<|.mo rfl<|.mo rfl<|.q (.zm rfl)<|.q .lss<|.zn<|.cond rfl (λJ=>?_) λJ=>?_
 have b4:k+a<xs.length:=by have:=bX J;omega
 obtain⟨m,a0⟩:=bW b4
 obtain⟨D,Z⟩:∃x,xs[k+a-1]? =some x:=⟨_,aV (by omega)⟩
 have w:=xw (xs:=xs) (i:=k+a-1) Z (by rw[show k+a-1+1=k+a by omega];exact a0)
 rw[show k+a-1+2=k+(a+1) by omega,show k+a-1+1=k+a by omega]at w
 have a3:OS 9 1 cG (.slice (some ⟨b,g,none⟩) l.length f) l r:=by rw[A];exact n
 have o:=a3.Q0 (R':=sg r) (λ_ F=>F) k (by omega)
 rw[List.length_drop,A]at o
 have U:(l.drop k)[a]? =some m:=by rw[List.getElem?_drop,B _ (by omega)];exact a0
 have a2:(l.drop k)[a-1]? =some D:=by rw[List.getElem?_drop,B _ (by omega),show k+(a-1)=k+a-1 by omega];exact Z
 have px:PS r (eE (.slice (some ⟨b,g+k*1,none⟩) (xs.length-k) (f-k)) (a*1)) (cG m):=⟨o.pc U⟩
 have pp:PS r (eE (.slice (some ⟨b,g+k*1,none⟩) (xs.length-k) (f-k)) ((a-1)*1)) (cG D):=⟨o.pc a2⟩
 obtain⟨y1,a1⟩:∃x,l[d]? =some x:=⟨_,aV (by omega)⟩
 refine .kn<|.seq<|.block<|.seq<|.gd mixed (by kernel_rfl)<|.mo rfl<|.mo rfl<|.q (.bG a o U rfl rfl rfl)<|.lo rfl<|.mo rfl<|.mo rfl<|.ia (a-1) .sub<|.q (.bG (a-1) o a2 rfl rfl rfl)<|.lo rfl<|.q .gP<|.zn<|.cond rfl (λK=>?_) λK=>?_
 have b5:D≠m:=λe=>by subst e;simp at K
 rw[if_neg b5]at w
 refine .sr<|.mo rfl<|.mo rfl<|.mo rfl<|.mo rfl<|.q (.bG a o U rfl rfl rfl)<|.lo rfl ?_
 refine .aL d n a1 (λc2=>?_)
 refine .du d n a1 m (λT2 a4=>?_)
 refine .zn<|.region<|.mo rfl<|.ia (d+1) .add<|.ag rfl<|.nil<|aX<|aw<|.region<|.mo rfl<|.ia (a+1) .add<|.ag rfl<|.nil ?_
 ·refine bm (a+1,d+1,l.set d m,T2) ⟨⟨by simp only;omega,by simp only;omega,by simp only;omega,by simp only;omega⟩,⟨by simp only[List.length_set];exact A,λj O=>?_,?_⟩,a4⟩ (by simp only;omega) kE.c.c.c.c rH
  ·simp only at O⊢
   rw[List.getElem?_set_ne (by omega)]
   exact B j (by omega)
  ·simp only
   rw[w, <-C,ad4,List.take_set_of_le (ad3 _),List.getElem?_set_self (by omega)]
   rfl
 have a8:D=m:=by have L:m=D:=(by simpa using K);exact L.symm
 rw[if_pos a8]at w
 refine .skip<|aX<|aw<|.region<|.mo rfl<|.ia (a+1) .add<|.ag rfl<|.nil ?_
 ·exact bm (a+1,d,l,r) ⟨⟨by simp only;omega,by simp only;omega,by simp only;omega,by simp only;omega⟩,⟨A,λj O=>B j (by simp only at O;omega),by simp only;rw[w];exact C⟩,n⟩ (by simp only;omega) kE.c.c.c.c rH
 have N:k+a=xs.length:=by have:=bF J;omega
 rw[N,List.take_length]at C
 have b8:d<=l.length:=by omega
 refine .exit<|bo<|bs<|bp<|aw<|.sr<|.mo rfl<|.mo rfl<|.q (.vQ d xs.length ⟨_,rfl⟩ rfl (by omega) (by omega) rfl)<|.CO d n (by omega) rfl (λT3 M=>?_)
 rw[C]at M
 have i3:=M.aB
 refine .z<|.mo rfl<|.mo rfl<|.q (.vQ 0 d rfl ⟨_,rfl⟩ (by omega) (by omega) rfl)<|.az rfl<|.ret (br (aK (cI (br (aK (bj _ (.one (.tmp rfl)) (.one [0] _) ?_))))))
 ·exact⟨T3,by simp[take],M⟩
 have Q:¬p=x:=λe=>by subst e;simp at I
 rw[if_neg Q,E,show xs.take k++[x]=xs.take (k+1) by rw[ad4,S];rfl]at t
 refine .skip<|aX<|aw<|.region<|.mo rfl<|.ia (k+1) .add<|.ag rfl<|.nil ?_
 ·exact bm (k+1) ⟨by omega,by omega,t⟩ (by omega) kE.c.c rH
 have N:k=xs.length:=by have:=bF G;omega
 subst N
 rw[List.take_length]at E
 refine .exit<|bo<|bs<|bp<|aw<|.sr<|.mo rfl<|.az rfl<|.ret (bj _ (.one (.tmp rfl)) (.one [0] _) ?_)
 ·exact⟨T0,by simp[take],by rw[E];exact h⟩
abbrev oJ(l:List ByteArray):Prop:=l.Pairwise λa b=>ey a b=true
theorem wi{l m:List ByteArray}(c:oJ l)(d:oJ m)(h:∀s,s∈l↔s∈m):l=m:=by
 have f:l.Nodup:=by have:=wW id c;simpa using this
 have g:m.Nodup:=by have:=wW id d;simpa using this
 refine(Cb id d ((List.perm_ext_iff_of_nodup f g).2 h) (c.imp λ{a b} e=>?_))
 exact vI.lW e
def jY(l:List ByteArray)(s:ByteArray):List ByteArray:=if s∈l then l else gO ey s l
theorem NP{l:List ByteArray}{s x:ByteArray}:x∈jY l s↔x∈l\/x=s:=by
 unfold jY
 split
 ·rename_i h
  exact⟨.inl,λa=>a.elim id λe=>e▸h⟩
 ·rw[ql.mem_iff,ad5]
  exact Or.comm
theorem Rv{l:List ByteArray}{s:ByteArray}(h:oJ l):oJ (jY l s):=by
 unfold jY
 split
 ·exact h
 ·rename_i a
  refine ur (lt:=ey) (λx y z=>sP) h λy b=>?_
  cases h1:ey s y with
  |true=>exact .inl rfl
  |false=>
   right
   cases h2:ey y s with
   |true=>rfl
   |false=>exact absurd (qP h1 h2▸b) a
theorem Rf{l:List ByteArray}{s:ByteArray}:(jY l s).length<=l.length+1:=by
 unfold jY
 split
 ·omega
 ·rw[yJ];omega
theorem oY{x:ByteArray}:∀{b a:List ByteArray},x∈b.foldl jY a↔x∈a\/x∈b
 |[],a=>by simp
 |s::b,a=>by
  rw[List.foldl_cons,oY (b:=b),NP,ad5,or_assoc]
theorem pR:∀{b a:List ByteArray},oJ a->oJ (b.foldl jY a)
 |[],_,h=>h
 |s::b,a,h=>by rw[List.foldl_cons];exact pR (Rv h)
theorem Br:∀{b a:List ByteArray},(b.foldl jY a).length<=a.length+b.length
 |[],a=>by simp
 |s::b,a=>by
  have c:=Br (b:=b) (a:=jY a s)
  have d:=Rf (l:=a) (s:=s)
  rw[List.foldl_cons,List.length_cons];omega
end Go.Proofs.YtdljmchhecoakaaGreat
