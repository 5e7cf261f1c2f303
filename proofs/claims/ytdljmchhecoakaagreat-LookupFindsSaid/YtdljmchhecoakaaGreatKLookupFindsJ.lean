/- What the law 'LookupFinds' uses. No condition. -/
import Derived.Test.YtdljmchhecoakaaGreatKLookupFindsB
import Derived.Test.YtdljmchhecoakaaGreatKLookupFindsD
import Derived.Test.YtdljmchhecoakaaGreatKLookupFindsH
namespace Go.Proofs.YtdljmchhecoakaaGreat
set_option linter.defProp false
def ad2:=@List.cons_append
def ad3:=@Nat.le_refl
def ad4:=@List.take_add_one
def ad5:=@List.mem_cons
def ad6:=@List.pairwise_cons
open Tryz
set_option linter.unusedVariables false
set_option maxRecDepth 4000
def gw:List ByteArray->List ByteArray
 |x::y::r=>if x=y then gw (y::r)else x::gw (y::r)
 |l=>l
theorem uY(p x:ByteArray):∀l:List ByteArray,gw (l++[p]++[x])=if p=x then gw (l++[p])else gw (l++[p])++[x]
 |[]=>by
  simp only[List.nil_append,ad2,gw]
  split
  ·rename_i h;subst h;rfl
  ·rfl
 |[a]=>by
  have c:=uY p x []
  simp only[List.nil_append,ad2]at c
  simp only[List.nil_append,ad2,gw]
  rw[show(if p=x then [x]else [p,x])=gw [p,x] by simp[gw],c]
  by_cases d:a=p<;>by_cases e:p=x<;>simp[d,e,gw]
 |a::b::l=>by
  have c:=uY p x (b::l)
  simp only[ad2]at c
  simp only[ad2,gw]
  rw[c]
  by_cases d:a=b<;>by_cases e:p=x<;>simp[d,e]
theorem yH{xs:List ByteArray}{i:Nat}{p x:ByteArray}(c:xs[i]? =some p)(d:xs[i+1]? =some x):gw (xs.take (i+2))=if p=x then gw (xs.take (i+1))else gw (xs.take (i+1))++[x]:=by
 have a:xs.take (i+1)=xs.take i++[p]:=by rw[ad4,c];rfl
 have b:xs.take (i+2)=xs.take i++[p]++[x]:=by rw[ad4,d,a];rfl
 rw[b,a]
 exact uY p x _
theorem yG{l:List ByteArray}(h:l.length<2):gw l=l:=by
 match l,h with
 |[],_=>rfl
 |[x],_=>rfl
theorem uX(s:ByteArray):∀l:List ByteArray,s∈gw l↔s∈l
 |[]=>Iff.rfl
 |[x]=>Iff.rfl
 |x::y::r=>by
  have a:=uX s (y::r)
  simp only[gw]
  split
  ·rename_i h;subst h;rw[a];simp
  ·rw[ad5,a];simp
theorem yF:∀l:List ByteArray,(l.Pairwise λa b=>dU b a=false)->(gw l).Pairwise λa b=>dU a b=true
 |[],_=>List.Pairwise.nil
 |[x],_=>List.pairwise_singleton _ _
 |x::y::r,h=>by
  rw[ad6]at h
  have e:=yF (y::r) h.2
  simp only[gw]
  split
  ·exact e
  ·rename_i c
   refine ad6.2 ⟨λz k=>?_,e⟩
   have d:=(uX z (y::r)).1 k
   have f:=h.1 z d
   cases h2:dU x z with
   |true=>rfl
   |false=>
    exfalso
    have j:x=z:=rX h2 f
    subst j
    rcases ad5.1 d with h3|h3
    ·exact c h3
    ·have g:=(ad6.1 h.2).1 x h3
     have i:=h.1 y (by simp)
     exact c (rX g i)
theorem Eh(v:Value)(xs:List ByteArray)(T:aw)(R:ay)(h:OS 9 1 cr v xs T)(hl:xs.length<=1000000000):
  Spec prog 103 [v] R [T] λu H'=>∃T',H'=[T']/\OS 9 1 cr u (gw xs) T':=by
 have iv:=h.aE
 by_cases H:xs.length<2
 ·skip
  refine Spec.body func103 rfl results103 ntmps103 rfl ?_
  refine .sr<|.ag rfl<|.zs<|.sr<|.mo rfl<|.q (.dG h) ?_
  refine .q .lss<|.zn ?_
  refine .cond rfl (λs=>?_) λs=>?_
  refine .sr<|.mo rfl<|.az rfl ?_
  refine .ret (aJ (aY _ (.one (.tmp rfl)) (.one [0] _) ?_))
  ·exact⟨T,by simp[take],by rw[yG H];exact h⟩
  ·have:=bA s;omega
 obtain⟨W,Y,a7⟩:=h
 rcases a7 with⟨_,L,_⟩|⟨b,g,c,f,rfl,rfl,a5,a6,V,hr⟩
 ·rw[L]at H;simp at H
 have h:OS 9 1 cr (.slice (some ⟨b,g,none⟩) xs.length f) xs [(b,.cells c 9 (0,0))]:=⟨W,Y,.inr ⟨b,g,c,f,rfl,rfl,a5,a6,V,hr⟩⟩
 clear W Y hr V
 generalize b6:[(b,Obj.cells c 9 (0,0))]=T0 at h⊢
 refine Spec.body func103 rfl results103 ntmps103 rfl ?_
 refine .sr<|.ag rfl<|.zs<|.sr<|.mo rfl<|.q (.dG h) ?_
 refine .q .lss<|.zn ?_
 refine .cond rfl (λs=>?_) λs=>?_
 ·have:=bT s;omega
 refine .kn<|.seq<|.sr<|.az rfl<|.block ?_
 refine .loop (X:=Nat) (λk=>1<=k/\k<=xs.length/\gw (xs.take k)=xs.take k) (λk=>[(0,.slice (some ⟨b,g,none⟩) xs.length f),(3,iN k)]) (λk=>[T0]) (λk=>xs.length-k) 1 ⟨ad3 _,by omega,yG (by rw[List.length_take];omega)⟩ kE.c.c rH ?_
 rintro k ⟨b7,b9,E⟩
 refine .seq<|.sr<|.mo rfl<|.mo rfl<|.q (.dG h) ?_
 refine .q .lss<|.zn ?_
 refine .cond rfl (λG=>?_) λG=>?_
 have b3:k<xs.length:=cg G
 obtain⟨x,Q⟩:=bQ b3
 obtain⟨p,F⟩:∃x,xs[k-1]? =some x:=⟨_,aZ (by omega)⟩
 have t:=yH (xs:=xs) (i:=k-1) F (by rw[show k-1+1=k by omega];exact Q)
 rw[show k-1+2=k+1 by omega,show k-1+1=k by omega]at t
 refine .kn<|.seq<|.block<|.seq ?_
 refine .fS mixed (by kernel_rfl) ?_
 refine .mo rfl<|.mo rfl ?_
 refine .aK k h Q (λc0=>?_)
 refine .lo rfl<|.mo rfl<|.mo rfl ?_
 refine .ia (k-1) .sub ?_
 refine .aK (k-1) h F (λc1=>?_)
 refine .lo rfl<|.q .dF<|.zn ?_
 refine .cond rfl (λI=>?_) λI=>?_
 have O:p=x:=(bT I).symm
 rw[if_pos O,E]at t
 refine .sr<|.mo rfl<|.mo rfl ?_
 refine .q (.xk k xs.length ⟨_,rfl⟩ rfl (by omega) (by omega) rfl) ?_
 rw[QN (by omega)]
 refine .ag rfl<|.zs<|.sr<|.az rfl<|.block ?_
 refine .loop (X:=Nat×Nat×List ByteArray×aw) (λy=>(1<=y.1/\k+y.1<=xs.length/\k<=y.2.1/\y.2.1+1<=k+y.1)/\(y.2.2.1.length=xs.length/\(∀j,k+y.1<=j+1->y.2.2.1[j]? =xs[j]?)/\y.2.2.1.take y.2.1=gw (xs.take (k+y.1)))/\OS 9 1 cr (.slice (some ⟨b,g,none⟩) xs.length f) y.2.2.1 y.2.2.2) (λy=>[(0,.slice (some ⟨b,g,none⟩) xs.length f),(3,iN y.2.1),(4,.slice (some ⟨b,g+k*1,none⟩) (xs.length-k) (f-k)),(5,iN y.1)]) (λy=>[y.2.2.2]) (λy=>xs.length-y.1) (1,k,xs,T0) ⟨⟨ad3 _,by simp only;omega,ad3 _,ad3 _⟩,⟨rfl,λj _=>rfl,t.symm⟩,h⟩ kE.c.c.c.c rH ?_
 rintro⟨a,d,l,r⟩ ⟨⟨a9,b0,b1,b2⟩,⟨A,B,C⟩,n⟩
 simp only at a9 b0 b1 b2 A B C n⊢
 refine .seq<|.sr<|.mo rfl<|.mo rfl<|.q (.AA rfl) ?_
 refine .q .lss<|.zn ?_
 refine .cond rfl (λJ=>?_) λJ=>?_
 have b4:k+a<xs.length:=by have:=bT J;omega
 obtain⟨m,a0⟩:=bQ b4
 obtain⟨D,Z⟩:∃x,xs[k+a-1]? =some x:=⟨_,aZ (by omega)⟩
 have w:=yH (xs:=xs) (i:=k+a-1) Z (by rw[show k+a-1+1=k+a by omega];exact a0)
 rw[show k+a-1+2=k+(a+1) by omega,show k+a-1+1=k+a by omega]at w
 have a3:OS 9 1 cr (.slice (some ⟨b,g,none⟩) l.length f) l r:=by rw[A];exact n
 have o:=a3.TH (R':=sg r) (λ_ F=>F) k (by omega)
 rw[List.length_drop,A]at o
 have S:(l.drop k)[a]? =some m:=by rw[List.getElem?_drop,B _ (by omega)];exact a0
 have a2:(l.drop k)[a-1]? =some D:=by rw[List.getElem?_drop,B _ (by omega),show k+(a-1)=k+a-1 by omega];exact Z
 have px:PS r (ez (.slice (some ⟨b,g+k*1,none⟩) (xs.length-k) (f-k)) (a*1)) (cr m):=⟨o.pc S⟩
 have pp:PS r (ez (.slice (some ⟨b,g+k*1,none⟩) (xs.length-k) (f-k)) ((a-1)*1)) (cr D):=⟨o.pc a2⟩
 obtain⟨y1,a1⟩:∃x,l[d]? =some x:=⟨_,aZ (by omega)⟩
 refine .kn<|.seq<|.block<|.seq ?_
 refine .fS mixed (by kernel_rfl) ?_
 refine .mo rfl<|.mo rfl<|.q (.bC a o S rfl rfl rfl) ?_
 refine .lo rfl<|.mo rfl<|.mo rfl ?_
 refine .ia (a-1) .sub ?_
 refine .q (.bC (a-1) o a2 rfl rfl rfl) ?_
 refine .lo rfl<|.q .fP<|.zn ?_
 refine .cond rfl (λK=>?_) λK=>?_
 have b5:D≠m:=λe=>by subst e;simp at K
 rw[if_neg b5]at w
 refine .sr<|.mo rfl<|.mo rfl<|.mo rfl<|.mo rfl<|.q (.bC a o S rfl rfl rfl) ?_
 refine .lo rfl ?_
 refine .aK d n a1 (λc2=>?_)
 refine .du d n a1 m (λT2 a4=>?_)
 refine .zn<|.region<|.mo rfl ?_
 refine .ia (d+1) .add ?_
 refine .ag rfl<|.nil<|aS<|au<|.region<|.mo rfl ?_
 refine .ia (a+1) .add ?_
 refine .ag rfl<|.nil ?_
 ·refine bd (a+1,d+1,l.set d m,T2) ⟨⟨by simp only;omega,by simp only;omega,by simp only;omega,by simp only;omega⟩,⟨by simp only[List.length_set];exact A,λj N=>?_,?_⟩,a4⟩ (by simp only;omega) kE.c.c.c.c rH
  ·simp only at N⊢
   rw[List.getElem?_set_ne (by omega)]
   exact B j (by omega)
  ·simp only
   rw[w, <-C,ad4,List.take_set_of_le (ad3 _),List.getElem?_set_self (by omega)]
   rfl
 have a8:D=m:=by have L:m=D:=(by simpa using K);exact L.symm
 rw[if_pos a8]at w
 refine .skip<|aS<|au<|.region<|.mo rfl ?_
 refine .ia (a+1) .add ?_
 refine .ag rfl<|.nil ?_
 ·exact bd (a+1,d,l,r) ⟨⟨by simp only;omega,by simp only;omega,by simp only;omega,by simp only;omega⟩,⟨A,λj N=>B j (by simp only at N;omega),by simp only;rw[w];exact C⟩,n⟩ (by simp only;omega) kE.c.c.c.c rH
 have M:k+a=xs.length:=by have:=bA J;omega
 rw[M,List.take_length]at C
 have b8:d<=l.length:=by omega
 refine .exit<|bo<|bq<|bp<|au<|.sr<|.mo rfl<|.mo rfl ?_
 refine .q (.xk d xs.length ⟨_,rfl⟩ rfl (by omega) (by omega) rfl) ?_
 refine .Ee d n (by omega) rfl (λT3 U=>?_)
 rw[C]at U
 refine .z<|.mo rfl<|.mo rfl ?_
 refine .q (.xk 0 d rfl ⟨_,rfl⟩ (by omega) (by omega) rfl) ?_
 refine .az rfl ?_
 refine .ret (bw (aJ (cG (bw (aJ (aY _ (.one (.tmp rfl)) (.one [0] _) ?_))))))
 ·exact⟨T3,by simp[take],U⟩
 have O:¬p=x:=λe=>by subst e;simp at I
 rw[if_neg O,E,show xs.take k++[x]=xs.take (k+1) by rw[ad4,Q];rfl]at t
 refine .skip<|aS<|au<|.region<|.mo rfl ?_
 refine .ia (k+1) .add ?_
 refine .ag rfl<|.nil ?_
 ·exact bd (k+1) ⟨by omega,by omega,t⟩ (by omega) kE.c.c rH
 have M:k=xs.length:=by have:=bA G;omega
 subst M
 rw[List.take_length]at E
 refine .exit<|bo<|bq<|bp<|au<|.sr<|.mo rfl<|.az rfl ?_
 refine .ret (aY _ (.one (.tmp rfl)) (.one [0] _) ?_)
 ·exact⟨T0,by simp[take],by rw[E];exact h⟩
abbrev pK(l:List ByteArray):Prop:=l.Pairwise λa b=>dU a b=true
theorem xC{l m:List ByteArray}(c:pK l)(d:pK m)(h:∀s,s∈l↔s∈m):l=m:=by
 have f:l.Nodup:=by have:=yh id c;simpa using this
 have g:m.Nodup:=by have:=yh id d;simpa using this
 refine(Dw id d ((List.perm_ext_iff_of_nodup f g).2 h) (c.imp λ{a b} e=>?_))
 exact xd.mh e
def fz(l:List ByteArray)(s:ByteArray):List ByteArray:=if s∈l then l else hB dU s l
theorem PT{l:List ByteArray}{s x:ByteArray}:x∈fz l s↔x∈l\/x=s:=by
 unfold fz
 split
 ·rename_i h
  exact⟨.inl,λa=>a.elim id λe=>e▸h⟩
 ·rw[rj.mem_iff,ad5]
  exact Or.comm
theorem Uo{l:List ByteArray}{s:ByteArray}(h:pK l):pK (fz l s):=by
 unfold fz
 split
 ·exact h
 ·rename_i a
  refine vJ (lt:=dU) (λx y z=>ug) h λy b=>?_
  cases h1:dU s y with
  |true=>exact .inl rfl
  |false=>
   right
   cases h2:dU y s with
   |true=>rfl
   |false=>exact absurd (rX h1 h2▸b) a
theorem TZ{l:List ByteArray}{s:ByteArray}:(fz l s).length<=l.length+1:=by
 unfold fz
 split
 ·omega
 ·rw[z0];omega
theorem pZ{x:ByteArray}:∀{b a:List ByteArray},x∈b.foldl fz a↔x∈a\/x∈b
 |[],a=>by simp
 |s::b,a=>by
  rw[List.foldl_cons,pZ (b:=b),PT,ad5,or_assoc]
theorem qD:∀{b a:List ByteArray},pK a->pK (b.foldl fz a)
 |[],_,h=>h
 |s::b,a,h=>by rw[List.foldl_cons];exact qD (Uo h)
theorem xy:∀{b a:List ByteArray},(b.foldl fz a).length<=a.length+b.length
 |[],a=>by simp
 |s::b,a=>by
  have c:=xy (b:=b) (a:=fz a s)
  have d:=TZ (l:=a) (s:=s)
  rw[List.foldl_cons,List.length_cons];omega
end Go.Proofs.YtdljmchhecoakaaGreat
