/- What the law 'OpNobody' uses. No condition. -/
import Derived.Test.YtgppncmdpcefhaaGreatDoorKOpNobodyH
import Derived.Test.YtgppncmdpcefhaaGreatDoorKOpNobodyJ
import Derived.Test.YtgppncmdpcefhaaGreatDoorKOpNobodyN
import Derived.Test.YtgppncmdpcefhaaGreatDoorKOpNobodyS
namespace Go.Proofs.YtgppncmdpcefhaaGreatDoor
open Tryz
set_option linter.unusedVariables false
set_option linter.unusedSimpArgs false
set_option maxRecDepth 4000
def CI(q:Nat)(cs:List cd)(C:List (db×List ByteArray))(A:List (ByteArray×cW))(V:List (ByteArray×Tok))(last now:Int)(T:ay):Prop:=
 ∃gc gb gv Tc Tb Tv,T=(q,.cells [pT gc,pT gb,pT gv,.int .i64 now].toArray 178 (0,0))::(Tc++(Tb++Tv))/\RI gc cs Tc/\GI gb C A Tb/\VI gv V last Tv
theorem Fp(R:aA):Spec prog 104 [] R [] λv H'=>∃T,H'=[T]/\∃q,v=pT q/\CI q [] [] [] [] 0 0 T:=by
 refine Spec.body func104 rfl results104 ntmps104 rfl ?_
 refine .sr<|.ag rfl<|.z ?_
 refine .cL (pL _) (λu b a=>?_)
 obtain⟨e,rfl,h⟩:=a
 refine .cL (qL _) (λu c a=>?_)
 obtain⟨f,rfl,i⟩:=a
 refine .cL (sS _) (λu d a=>?_)
 obtain⟨g,rfl,j⟩:=a
 refine .q .dR ?_
 refine .cJ rfl (λk=>?_)
 refine .az rfl ?_
 refine .ret (aZ _ (.one (.tmp rfl)) (.one [0,2,1,0] _) ?_)
 ·exact⟨_,rfl,_,rfl,e,f,g,b,c,d,by simp[take,cq,cF],h,i,j⟩
theorem ma(q a:Nat)(b c d:Value)(R:aA) [pc:PC R (pT q) [pT a,b,c,d]]:Spec prog 107 [pT q] R [] λv H'=>v=.bool true/\H'=[]:=by
 refine Spec.body func107 rfl results107 ntmps107 rfl ?_
 refine .sr<|.ag rfl<|.z<|.mo rfl<|.q (.jg rfl rfl) ?_
 refine .mo rfl<|.gt rfl ?_
 refine .mo rfl<|.gt rfl ?_
 refine .nc rfl<|.gt rfl ?_
 refine .fa rfl<|.gt rfl ?_
 refine .lo rfl<|.gt rfl ?_
 refine .q (.jg rfl rfl) ?_
 refine .q .ed<|.az rfl ?_
 refine .ret (br rfl ?_)
 ·exact⟨rfl,rfl⟩
theorem rC(q a:Nat)(b c:Value)(now:Int)(R:aA) [pc:PC R (pT q) [pT a,b,c,.int .i64 now]]:Spec prog 55 [pT q] R [] λv H'=>v=.int .i64 now/\H'=[]:=by
 refine Spec.body func55 rfl results55 ntmps55 rfl ?_
 refine .sr<|.ag rfl<|.zs<|.sr<|.mo rfl ?_
 refine .bc (ma q a b c _ _) (λv d=>?_)
 subst d
 refine .q .not<|.zn<|.bB<|.kn<|.sr<|.mo rfl<|.nc rfl<|.fa rfl<|.lo rfl<|.az rfl ?_
 refine .ret (br rfl ?_)
 ·exact⟨rfl,rfl⟩
theorem ru(q a g:Nat)(c d:Value)(R:aA) [pc:PC R (pT q) [pT a,pT g,c,d]]:Spec prog 76 [pT q] R [] λv H'=>v=pT g/\H'=[]:=by
 refine Spec.body func76 rfl results76 ntmps76 rfl ?_
 refine .sr<|.ag rfl<|.zs<|.sr<|.mo rfl ?_
 refine .bc (ma q a _ c d _) (λv b=>?_)
 subst b
 refine .q .not<|.zn<|.bB<|.kn<|.sr<|.mo rfl<|.nc rfl<|.fa rfl<|.lo rfl<|.az rfl ?_
 refine .ret (br rfl ?_)
 ·exact⟨rfl,rfl⟩
theorem EF(g:Nat)(C:List (db×List ByteArray))(A:List (ByteArray×cW))(T:ay)(h:GI g C A T)(now:Int)(R:aA):
  Spec prog 109 [pT g,.int .i64 now] R [T] λv H'=>∃T',H'=[T']/\v=.tuple #[]/\GI g C (A.filter λx=>decide (now<x.2.dA)) T':=by
 have O:=h.nd
 obtain⟨j,_,rfl,d,MC,vm,M,q,e,r,K,rfl,Q,U,hI,N,hQ⟩:=h
 obtain⟨a,rfl⟩:∃b,vm=.map (some b):=by obtain⟨b,es,a2,w,_⟩:=U;exact⟨b,w⟩
 have ic:One d:=⟨by obtain⟨b,es,a2,w,_⟩:=Q.1;subst w;rfl⟩
 refine Spec.ep (H':=[bl g [d,.map (some a),pT q] 230,e,r,K,j]) (by simp) ?_
 refine Spec.body func109 rfl results109 ntmps109 rfl ?_
 refine .seq<|.sr<|.mo rfl ?_
 refine .bc (mQ g a _ _ _) (λv hv=>?_)
 subst hv
 refine .q .not<|.zn<|.bB<|.kn<|.sr<|.mo rfl<|.nc rfl<|.fa rfl<|.lo rfl<|.mo rfl ?_
 refine .call [3] (rL q _ K hQ now _) (λu H' hu=>?_)
 obtain⟨l,J,B,A',rfl,G,a4,E,S⟩:=hu
 show aM _ _ _ _ _ _ _ [l,J,bl g [d,.map (some a),pT q] 230,e,r,j] _
 have a8:=G.le
 refine .q (.fV G) ?_
 refine .mo rfl<|.zn<|.block ?_
 refine .loop (X:=Nat×List (ByteArray×GP)×ay) (λy=>(y.1<=B.length/\y.2.1=M.filter λx=>decide (x.1∉(B.map (·.1)).take y.1))/\MS (λs:ByteArray=>.string s) (λp:GP=>.agg (bG p).toArray) (.map (some a)) y.2.1 y.2.2) (λy=>[(0,pT g),(14,u),(15,.int .i64 ((B.map (·.1)).length:Nat)),(16,iN y.1)]) (λy=>[l,J,bl g [d,.map (some a),pT q] 230,e,y.2.2,j]) (λy=>B.length-y.1) (0,M,r) ⟨⟨by omega,by simp only[List.take_zero];exact(List.filter_eq_self.2 λx _=>by simp).symm⟩,U⟩ kE.c.c.c.c rH ?_
 rintro⟨i,o,I⟩ ⟨⟨hi,F⟩,m⟩
 simp only at hi F m⊢
 refine .sr<|.q .lss<|.zs ?_
 refine .cond rfl (λD=>?_) λD=>?_
 have Y:i<(B.map (·.1)).length:=by have:=bo D;omega
 obtain⟨k,W⟩:=eL Y
 have a9:i<B.length:=by simpa using Y
 refine .kn<|.seq<|.block<|.sr ?_
 refine .au i G W (λb0=>?_)
 refine .lo rfl<|.az rfl<|.region<|.mo rfl ?_
 refine .nc rfl<|.fa rfl<|.lo rfl<|.mo rfl ?_
 refine .delete m rfl (show _=some (Value.string k)from rfl) (λa1 a3 _=>?_)
 refine .nil<|bi<|aD<|.region ?_
 refine .ia (i+1) .add ?_
 refine .mo rfl<|.nil ?_
 ·exact aN (i+1,fb k o,a1) ⟨⟨by simp only;omega,by simp only;rw[mY m.nd,F,sF,List.take_add_one,W];rfl⟩,a3⟩ (by simp only;omega) kE.c.c.c.c rH
 have a5:i=B.length:=by have:=aY D;simp at this;omega
 have V:o=M.filter λx=>decide (now<x.2.2.dA):=by
  rw[F,a5,List.take_of_length_le (by simp)]
  refine List.filter_congr λx hx=>?_
  have Z:=E.pm
  have a7:(x.1,x.2.2)∈A:=N.mem_iff.1 (lW hx)
  have a0:(x.1,x.2.2.dA)∈dd (λt:cW=>t.dA) A:=lW a7
  by_cases H:now<x.2.2.dA
  ·have:x.1∉B.map (·.1):=λhm=>by
    obtain⟨p,n,a6⟩:=List.mem_map.1 hm
    have h5:p∈dd (λt:cW=>t.dA) A:=Z.mem_iff.2 (List.mem_append_left _ n)
    have h6:bX x.1 (dd (λt:cW=>t.dA) A)=some p.2:=gz (by rw[jK];exact O) (by rw[<-a6];exact h5)
    have L:bX x.1 (dd (λt:cW=>t.dA) A)=some x.2.2.dA:=gz (by rw[jK];exact O) a0
    rw[h6]at L
    have h8:=E.le p n
    simp only[Option.some.injEq]at L
    omega
   rw[decide_eq_true this,decide_eq_true H]
  ·have:x.1∈B.map (·.1):=by
    rcases List.mem_append.1 (Z.mem_iff.1 a0)with h5|h5
    ·exact List.mem_map.2 ⟨_,h5,rfl⟩
    ·exact absurd (S _ h5) H
   rw[decide_eq_false H,decide_eq_false (λhh=>hh this)]
 refine .exit<|aP<|aV<|aR ?_
 refine ct _ .none ((cu [2,2,2,0,1]).trans (bV.du (H':=[((g,.cells [d,.map (some a),pT q].toArray 230 (0,0))::(e++(I++l)))++j]) (by simp[take,cq]))) ?_
 ·refine⟨_,rfl,rfl,j,_,rfl,d,MC,_,o,q,e,I,l,rfl,Q,m,λp n=>hI p (List.mem_filter.1 (V▸n)).1,?_,?_⟩
  ·rw[V, <-mT (q:=λt:cW=>decide (now<t.dA))]
   exact N.filter _
  ·refine a4.perm ((E.filter S).trans (List.Perm.of_eq ?_))
   exact mT (f:=λt:cW=>t.dA) (q:=λz:Int=>decide (now<z))
def il(n now:Int):Int:=if n<0\/n>1073741824 then 2 else if now>1125899906842624-n then 8 else 0
theorem FI(q:Nat)(cs:List cd)(C:List (db×List ByteArray))(A:List (ByteArray×cW))(V:List (ByteArray×Tok))(last now:Int)(T:ay)(h:CI q cs C A V last now T)(G:0<=now)(H:now<=1125899906842624)(n:Int)(R:aA):
  Spec prog 59 [pT q,.int .i64 n] R [T] λv H'=>∃T',H'=[T']/\v=.int .i64 (il n now)/\(il n now≠0->CI q cs C A V last now T')/\(il n now=0->(0<=now+n/\now+n<=1125899906842624)/\CI q cs C (A.filter λx=>decide (now+n<x.2.dA)) (V.filter λx=>decide (now+n<x.2.dA)) last (now+n) T'):=by
 obtain⟨d,c,f,i,g,j,rfl,m,l,o⟩:=h
 refine Spec.ep (H':=[bl q [pT d,pT c,pT f,.int .i64 now] 178,i,g,j]) (by simp) ?_
 refine Spec.body func59 rfl results59 ntmps59 rfl ?_
 refine .sr<|.ag rfl<|.zs<|.block<|.sr<|.mo rfl ?_
 refine .bc (ma q d _ _ _ _) (λv E=>?_)
 subst E
 refine .q .not<|.az rfl<|.bB<|.sr<|.mo rfl<|.q .lss<|.mo rfl ?_
 refine .split (t:=12) rfl (λa=>?_) (λa=>?_)
 refine .gF a<|.gF a<|.q (.bu a) ?_
 refine .az rfl<|.dG<|.sr<|.az rfl ?_
 refine .ret (bg (aT (aZ _ (.one (.tmp rfl)) (.one [0,0,0,0] _) ?_)))
 ·have e:il n now=2:=by
   unfold il
   rw[if_pos (by first|(exact .inl (by simpa using a))|(exact .inr (by simpa using k)))]
  rw[e]
  exact⟨_,rfl,rfl,λ_=>⟨d,c,f,i,g,j,by simp[take,cq],m,l,o⟩,λb=>by simp at b⟩
 refine .gT a<|.mo rfl<|.gT a<|.q .gtr<|.q (.bq a) ?_
 refine .az rfl ?_
 refine .cond rfl (λk=>?_) λk=>?_
 refine .sr<|.az rfl ?_
 refine .ret (bg (aT (aZ _ (.one (.tmp rfl)) (.one [0,0,0,0] _) ?_)))
 ·have e:il n now=2:=by
   unfold il
   rw[if_pos (by first|(exact .inl (by simpa using a))|(exact .inr (by simpa using k)))]
  rw[e]
  exact⟨_,rfl,rfl,λ_=>⟨d,c,f,i,g,j,by simp[take,cq],m,l,o⟩,λb=>by simp at b⟩
 have F:0<=n/\n<=1073741824:=by simp at a k;omega
 refine .sr<|.mo rfl<|.nc rfl<|.fa rfl<|.lo rfl<|.mo rfl ?_
 refine .q (.i64 (1125899906842624-n) .sub ⟨by omega,by omega,by omega⟩) ?_
 refine .q .gtr<|.az rfl ?_
 refine .cond rfl (λp=>?_) λp=>?_
 refine .sr<|.az rfl ?_
 refine .ret (bg (aT (aZ _ (.one (.tmp rfl)) (.one [0,0,0,0] _) ?_)))
 ·have e:il n now=8:=by unfold il;rw[if_neg (by omega),if_pos (by simpa using p)]
  rw[e]
  exact⟨_,rfl,rfl,λ_=>⟨d,c,f,i,g,j,by simp[take,cq],m,l,o⟩,λb=>by simp at b⟩
 have D:¬now>1125899906842624-n:=by simpa using p
 refine .skip<|bi<|aD<|.sr<|.mo rfl<|.nc rfl<|.fa rfl<|.lo rfl<|.mo rfl ?_
 refine .q (.i64 (now+n) .add ⟨by omega,by omega,by omega⟩) ?_
 refine .nc rfl<|.fa rfl<|.cO rfl rfl<|.zs ?_
 refine .bQ 8 mixed (by kernel_rfl) ?_
 conv=>arg 6;dsimp only[List.take]
 refine .mo rfl<|.nc rfl<|.fa rfl<|.lo rfl<|.mo rfl ?_
 refine .nc rfl<|.fa rfl<|.lo rfl<|.nil ?_
 refine .bb (EF c C A g l (now+n) R) (λu s r=>?_)
 obtain⟨rfl,y⟩:=r
 refine .zs ?_
 refine .bQ 8 mixed (by kernel_rfl) ?_
 conv=>arg 6;dsimp only[List.take]
 refine .mo rfl<|.nc rfl<|.fa rfl<|.lo rfl<|.mo rfl ?_
 refine .nc rfl<|.fa rfl<|.lo rfl<|.nil ?_
 refine .bb (Ht f V last j o (now+n) R) (λu w r=>?_)
 obtain⟨rfl,B⟩:=r
 refine .z<|.az rfl ?_
 refine .ret (aZ _ (.one (.tmp rfl)) (.one [0,0,0,0] _) ?_)
 ·have e:il n now=0:=by unfold il;rw[if_neg (by omega),if_neg D]
  rw[e]
  exact⟨_,rfl,rfl,λb=>absurd rfl b,λ_=>⟨by omega,d,c,f,i,s,w,by simp[take,cq,cF],m,y,B⟩⟩
end Go.Proofs.YtgppncmdpcefhaaGreatDoor
